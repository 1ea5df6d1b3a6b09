import Derived.Test.YtaokkkolbifdpaaGreatDoorMgLegendTexts1
import Derived.Test.YtaokkkolbifdpaaGreatDoorMgLegendTexts3
import Derived.Deep.RegionWith
import Derived.Test.YtaokkkolbifdpaaGreatDoorProg
import Derived.Below
import Derived.Deep.Draws
import Derived.Deep.AppendLies
import Derived.Maps.AppendAt
import Derived.OwnWalk
import Derived.Laws.BytesArg
import Derived.Laws.MakeOwn
import Derived.Laws.OwnMore
import Derived.Deep.OwnRows
import Derived.Tactics
import Derived.Lib.ConvBytes
import Derived.Laws.Slices
import Derived.WalkKit
import Derived.KernelRfl
import Derived.RowKit3
import Derived.Deep.LoopGhost
import Derived.Deep.QuietTactic
import Derived.BigQuiet
import Derived.WideLaws
import Derived.Deep.DeepCutAuto
import Derived.Deep.CutBlock
import Derived.Deep.RegionHeld3
import Derived.Laws.Rows
import Derived.Lib.AppendStr
import Derived.ArgAppend
import Derived.Laws.IdiomCopy
import Derived.OrdersHeld
import Derived.Laws.BitsLemmas
import Derived.RowKit
import Derived.Test.YtaokkkolbifdpaaGreatDoorMgLegendTexts0
import Derived.Test.YtaokkkolbifdpaaGreatDoorMgLegendTexts2
set_option linter.unusedVariables false
set_option linter.unusedSimpArgs false
set_option maxHeartbeats 64000000
set_option maxRecDepth 100000
section
namespace Go.Proofs.YtaokkkolbifdpaaGreatDoor.Hand
open Go.RowKit Go.Proofs.YtaokkkolbifdpaaGreatDoorW
open PrintWords PrintLast PrintMore
abbrev L3 : Type := List S23 × List S23 × List S23
def toP (p : List UInt8 × List UInt8) : S23 := ⟨lb p.1, lb p.2⟩
def putS (m : L3) (w : List UInt8) (p : List UInt8 × List UInt8) : L3 :=
 if w = wClass then (m.1 ++ [toP p],m.2.1,m.2.2) else if w = wField then (m.1,m.2.1 ++ [toP p],m.2.2) else if w = wMethod then (m.1,m.2.1,m.2.2 ++ [toP p]) else m
def readsF : List (List UInt8) → Nat → L3 → L3 × Int
 | [],_,m => (m,0)
 | l :: ls,i,m => if (readS l).2.2 = true then readsF ls (i + 1) (putS m (readS l).1 (readS l).2.1) else (([],[],[]),(i : Int) + 1)
def parseS (s : List UInt8) : L3 × (Int × Int) :=
 if (linesL s).2.1 ≠ 0 then (([],[],[]),(linesL s).2) else
 if (readsF (linesL s).1 0 ([],[],[])).2 ≠ 0 then (([],[],[]),(1,(readsF (linesL s).1 0 ([],[],[])).2)) else
 if (printS (readsF (linesL s).1 0 ([],[],[])).1.1 (readsF (linesL s).1 0 ([],[],[])).1.2.1 (readsF (linesL s).1 0 ([],[],[])).1.2.2).2 ≠ 0 ∨ (printS (readsF (linesL s).1 0 ([],[],[])).1.1 (readsF (linesL s).1 0 ([],[],[])).1.2.1 (readsF (linesL s).1 0 ([],[],[])).1.2.2).1 ≠ s then (([],[],[]),(5,0)) else ((readsF (linesL s).1 0 ([],[],[])).1,(0,0))
theorem lineL_mem : ∀ (l : List (List UInt8)), ∀ x ∈ l, x.length ≤ (lineL l).length
 | [],x,h => by simp at h
 | [y],x,h => by simp at h;rw [h];exact Nat.le_refl _
 | y :: z :: l,x,h => by
  show x.length ≤ (y ++ 32 :: lineL (z :: l)).length
  rcases List.mem_cons.1 h with h|h
  ·
   rw [h,List.length_append];omega
  ·
   have:=lineL_mem (z :: l) x h
   rw [List.length_append,List.length_cons]
   omega
theorem readS_len (line : List UInt8) (h : (readS line).2.2 = true) : (readS line).2.1.1.length ≤ line.length ∧ (readS line).2.1.2.length ≤ line.length ∧ ((readS line).1 = wClass ∨ (readS line).1 = wField ∨ (readS line).1 = wMethod) := by
 have hj:=line_fields line
 unfold readS at h ⊢
 generalize hf : fieldsL line = l at h hj ⊢
 unfold readF at h ⊢
 split at h
 ·
  rename_i a b c
  split at h
  ·
   rename_i hw
   rw [if_pos hw]
   refine ⟨?_,?_,hw.elim .inl (fun q => .inr (.inl q))⟩
   ·
    rw [← hj];exact lineL_mem _ b (by simp)
   ·
    rw [← hj];exact lineL_mem _ c (by simp)
  ·
   cases h
 ·
  rename_i a b c d
  split at h
  ·
   rename_i hw
   rw [if_pos hw]
   refine ⟨?_,?_,.inr (.inr hw.1)⟩
   ·
    rw [← hj,lineL_len4,List.length_append];omega
   ·
    rw [← hj];exact lineL_mem _ d (by simp)
  ·
   cases h
 ·
  cases h
def okM (m : L3) (n : Nat) : Prop := m.1.length + m.2.1.length + m.2.2.length ≤ n ∧ (∀ x ∈ m.1, okS x) ∧ (∀ x ∈ m.2.1, okS x) ∧ (∀ x ∈ m.2.2, okS x)
theorem okM_put {m : L3} {n : Nat} {line : List UInt8} (h : okM m n) (hr : (readS line).2.2 = true) (hl : line.length ≤ 1048576) : okM (putS m (readS line).1 (readS line).2.1) (n + 1) := by
 obtain ⟨h1,h2,h3⟩:=readS_len line hr
 have hx : okS (toP (readS line).2.1):=⟨by show (lb _).size ≤ _;rw [lb_size];omega,by show (lb _).size ≤ _;rw [lb_size];omega⟩
 have hap : ∀ l : List S23,(∀ x ∈ l,okS x) → ∀ x ∈ l ++ [toP (readS line).2.1],okS x:=fun l hl x hm => by
  rcases List.mem_append.1 hm with hm|hm
  ·
   exact hl x hm
  ·
   rw [List.mem_singleton.1 hm];exact hx
 obtain ⟨q0,q1,q2,q3⟩:=h
 unfold putS
 split
 ·
  exact ⟨by simp;omega,hap _ q1,q2,q3⟩
 ·
  split
  ·
   exact ⟨by simp;omega,q1,hap _ q2,q3⟩
  ·
   split
   ·
    exact ⟨by simp;omega,q1,q2,hap _ q3⟩
   ·
    exact ⟨by omega,q1,q2,q3⟩
theorem txt_len : ∀ (ls : List (List UInt8)) (M : Nat), (∀ x ∈ ls, x.length ≤ M) → (textL ls).length ≤ ls.length * (M + 1)
 | [],M,_ => by simp [textL]
 | x :: ls,M,h => by
  have ih:=txt_len ls M fun y hy => h y (List.mem_cons_of_mem _ hy)
  have hx:=h x List.mem_cons_self
  unfold textL at ih ⊢
  have e : (x ++ [(10 : UInt8)]).length = x.length + 1:=by simp
  rw [List.flatMap_cons,List.length_append,e,List.length_cons,Nat.succ_mul]
  omega
theorem lineS_len (w : List UInt8) (x : List UInt8 × List UInt8) : (lineS w x).length ≤ x.1.length + x.1.length + x.2.length + 9 := by
 have h1:=keyN_len x.1
 have h2:=keyD_len x.1
 have l1 : wClass.length = 5:=rfl
 have l2 : wField.length = 5:=rfl
 have l3 : wMethod.length = 6:=rfl
 unfold lineS
 split
 ·
  rename_i h
  rw [lineL_len3]
  rcases h with h|h <;> (rw [h];omega)
 ·
  split
  ·
   rename_i h
   rw [lineL_len4,h]
   omega
  ·
   simp
theorem all_len (l0 l1 l2 : List S23) (h0 : ∀ x ∈ l0, okS x) (h1 : ∀ x ∈ l1, okS x) (h2 : ∀ x ∈ l2, okS x) : ∀ y ∈ linesAll l0 l1 l2, y.length ≤ 4194304 := by
 have one : ∀ (w : List UInt8) (l : List S23),(∀ x ∈ l,okS x) → ∀ y ∈ l.map (fun x => lineS w (pairT x)),y.length ≤ 4194304:=fun w l h y hy => by
  obtain ⟨x,hx,rfl⟩:=List.mem_map.1 hy
  have:=lineS_len w (pairT x)
  obtain ⟨q1,q2⟩:=h x hx
  have e1 : (pairT x).1.length = x.f0.size:=bl_len _
  have e2 : (pairT x).2.length = x.f1.size:=bl_len _
  omega
 intro y hy
 unfold linesAll at hy
 rcases List.mem_append.1 hy with hy|hy
 ·
  rcases List.mem_append.1 hy with hy|hy
  ·
   exact one _ _ h0 y hy
  ·
   exact one _ _ h1 y hy
 ·
  exact one _ _ h2 y hy
theorem linesAll_len (l0 l1 l2 : List S23) : (linesAll l0 l1 l2).length = l0.length + l1.length + l2.length := by simp [linesAll]; omega
theorem legend_print' (A0 : Option Addr) (c0 : Nat) (l0 : List S23) (A1 : Option Addr) (c1 : Nat) (l1 : List S23) (A2 : Option Addr) (c2 : Nat) (l2 : List S23) (w : World) (hC0 : Kd.C k23 w A0 l0.length l0) (hc0 : l0.length ≤ c0) (hC1 : Kd.C k23 w A1 l1.length l1) (hc1 : l1.length ≤ c1) (hC2 : Kd.C k23 w A2 l2.length l2) (hc2 : l2.length ≤ c2) (ok : okM (l0, l1, l2) 1048576) (hM : MaxL w) :
  Calls Tryz.prog 13 #[.agg #[.slice A0 l0.length c0,.slice A1 l1.length c1,.slice A2 l2.length c2]] w fun e w' => e = .returned (.tuple #[.string (lb (printS l0 l1 l2).1),.int .i64 (printS l0 l1 l2).2]) ∧ Below w.heap.size w w':=by
 obtain ⟨q0,q1,q2,q3⟩:=ok
 have q0 : l0.length + l1.length + l2.length ≤ 1048576:=q0
 have ht:=txt_len (linesAll l0 l1 l2) 4194304 (all_len l0 l1 l2 q1 q2 q3)
 rw [linesAll_len] at ht
 have hmul : (l0.length + l1.length + l2.length) * (4194304 + 1) ≤ 1048576 * (4194304 + 1):=Nat.mul_le_mul_right _ q0
 exact legend_print A0 c0 l0 A1 c1 l1 A2 c2 l2 w hC0 hc0 hC1 hc1 hC2 hc2 ⟨by omega,q1⟩ ⟨by omega,q2⟩ ⟨by omega,q3⟩ hM (by rw [linesAll_len];exact q0) (by omega)
theorem text_mem : ∀ (ls : List (List UInt8)), ls.length ≤ (textL ls).length ∧ ∀ x ∈ ls, x.length ≤ (textL ls).length
 | [] => ⟨Nat.zero_le _,by simp⟩
 | y :: ls => by
  obtain ⟨h1,h2⟩:=text_mem ls
  unfold textL at h1 h2 ⊢
  have e : (y ++ [(10 : UInt8)]).length = y.length + 1:=by simp
  rw [List.flatMap_cons,List.length_append,e,List.length_cons]
  refine ⟨by omega,fun x hx => ?_⟩
  rcases List.mem_cons.1 hx with h|h
  ·
   rw [h];omega
  ·
   have:=h2 x h;omega
theorem lines_bound {s : List UInt8} (h : (linesL s).2.1 = 0) : (linesL s).1.length ≤ 65536 ∧ ∀ x ∈ (linesL s).1, x.length ≤ 65536 := by
 unfold linesL at h ⊢
 split at h
 ·
  cases h
 ·
  rename_i hs
  rw [if_neg hs]
  obtain ⟨m,e,f,hl⟩ : ∃ m e f,lin [] [] s = (m,e,f):=⟨_,_,_,rfl⟩
  rw [hl] at h ⊢
  have h0 : e = 0:=h
  subst h0
  have hb:=(lin_back s [] [] m f hl).1
  simp [textL] at hb
  obtain ⟨h1,h2⟩:=text_mem m
  have ht : textL m = s:=by rw [hb];rfl
  rw [ht] at h1 h2
  exact ⟨by show m.length ≤ _;omega,fun x hx => by have:=h2 x hx;omega⟩
def ParsedTo (w : World) (q : L3 × (Int × Int)) (e : Ending) (w' : World) : Prop := ∃ v0 v1 v2, e = .returned (.tuple #[.agg #[v0, v1, v2], .agg #[.int .i64 q.2.1, .int .i64 q.2.2]]) ∧ Kd.R k23 23 w' w.heap.size (fun _ => True) v0 q.1.1 ∧ Kd.R k23 23 w' w.heap.size (fun _ => True) v1 q.1.2.1 ∧ Kd.R k23 23 w' w.heap.size (fun _ => True) v2 q.1.2.2 ∧ Below w.heap.size w w'
theorem read_call (s : ByteArray) (hs : s.size ≤ 1048576) (W : World) (hM : MaxL W) : Calls Tryz.prog 7 #[.string s] W fun e w' => e = .returned (.tuple #[.string (lb (readS (bl s)).1), .agg #[.string (toP (readS (bl s)).2.1).f0, .string (toP (readS (bl s)).2.1).f1], .bool (readS (bl s)).2.2]) ∧ Below W.heap.size W w' :=
 Q32.legend_Read.calls 1 s _ _ _ _ W hM (legRead_eq s hs)
theorem put_call (base g : Nat) (v0 v1 v2 : Value) (m : L3) (what : List UInt8) (x : List UInt8 × List UInt8) (w : World) (hw : what = wClass ∨ what = wField ∨ what = wMethod) (hm : MOwn w base g v0 v1 v2 m.1 m.2.1 m.2.2) (hl : m.1.length + m.2.1.length + m.2.2.length ≤ 1048576) (hbz : base ≤ w.heap.size) :
  Calls Tryz.prog 32 #[.pointer (some ⟨g,0,none⟩),.string (lb what),.agg #[.string (toP x).f0,.string (toP x).f1]] w fun e w' => ∃ u0 u1 u2,e = .returned (.tuple #[]) ∧ MOwn w' base g u0 u1 u2 (putS m what x).1 (putS m what x).2.1 (putS m what x).2.2 ∧ Below base w w':=by
 have n1 : wField ≠ wClass:=by decide
 have n2 : wMethod ≠ wClass:=by decide
 have n3 : wMethod ≠ wField:=by decide
 rcases hw with rfl|rfl|rfl
 ·
  refine (put_0 base g v0 v1 v2 m.1 m.2.1 m.2.2 (lb wClass) (toP x) w hm (by rw [toList_bl];rfl) (by omega) hbz).mono ?_
  rintro e w' ⟨v',he,h,hb⟩
  unfold putS
  rw [if_pos rfl]
  exact ⟨v',v1,v2,he,h,hb⟩
 ·
  refine (put_1 base g v0 v1 v2 m.1 m.2.1 m.2.2 (lb wField) (toP x) w hm (by rw [toList_bl];rfl) (by omega) hbz).mono ?_
  rintro e w' ⟨v',he,h,hb⟩
  unfold putS
  rw [if_neg n1,if_pos rfl]
  exact ⟨v0,v',v2,he,h,hb⟩
 ·
  refine (put_2 base g v0 v1 v2 m.1 m.2.1 m.2.2 (lb wMethod) (toP x) w hm (by rw [toList_bl];rfl) (by omega) hbz).mono ?_
  rintro e w' ⟨v',he,h,hb⟩
  unfold putS
  rw [if_neg n2,if_neg n3,if_pos rfl]
  exact ⟨v0,v1,v',he,h,hb⟩
theorem set2_own {w : World} {R : Nat} {t : TypeId} {u0 u1 : Value} (h : w.heap[R]? = some (Obj.cells #[u0, u1] t (0, 0))) (v0 v1 : Value) : ((w.setCell ⟨R, 0, none⟩ v0).setCell ⟨R, 1, none⟩ v1).heap[R]? = some (Obj.cells #[v0, v1] t (0, 0)) := blk_put (cs' := #[v0, v1]) (blk_put (cs' := #[v0, u1]) h 0 v0 rfl) 1 v1 rfl
theorem set3_own {w : World} {R : Nat} {t : TypeId} {u0 u1 u2 : Value} (h : w.heap[R]? = some (Obj.cells #[u0, u1, u2] t (0, 0))) (v0 v1 v2 : Value) : (((w.setCell ⟨R, 0, none⟩ v0).setCell ⟨R, 1, none⟩ v1).setCell ⟨R, 2, none⟩ v2).heap[R]? = some (Obj.cells #[v0, v1, v2] t (0, 0)) := blk_put (cs' := #[v0, v1, v2]) (blk_put (cs' := #[v0, v1, u2]) (blk_put (cs' := #[v0, u1, u2]) h 0 v0 rfl) 1 v1 rfl) 2 v2 rfl
theorem set2_far {w : World} {R k : Nat} (h : k ≠ R) (v0 v1 : Value) : ((w.setCell ⟨R, 0, none⟩ v0).setCell ⟨R, 1, none⟩ v1).heap[k]? = w.heap[k]? := by rw [Below.heap_setCell _ _ _ _ h, Below.heap_setCell _ _ _ _ h]
theorem set3_far {w : World} {R k : Nat} (h : k ≠ R) (v0 v1 v2 : Value) : (((w.setCell ⟨R, 0, none⟩ v0).setCell ⟨R, 1, none⟩ v1).setCell ⟨R, 2, none⟩ v2).heap[k]? = w.heap[k]? := by rw [Below.heap_setCell _ _ _ _ h, Below.heap_setCell _ _ _ _ h, Below.heap_setCell _ _ _ _ h]
theorem legend_parse (s : ByteArray) (hs : s.size ≤ 1048576) (w : World) (hM : MaxL w) : Calls Tryz.prog 15 #[.string s] w (ParsedTo w (parseS (bl s))) := by
 have HLn:=aq (word_Lines.calls s ((linesL (bl s)).1.map lb) (linesL (bl s)).2.1 (linesL (bl s)).2.2 ((w.alloc (Obj.cells #[.slice none 0 0,.slice none 0 0,.slice none 0 0] 34)).alloc (Obj.cells #[.int .i64 0,.int .i64 0] 40)) (hM.below (below_alloc (below_alloc (Below.refl _ _) _) _)) (by unfold word_Lines.f;rw [if_pos (by omega)]))
 have hM0 : MaxL ((w.alloc (Obj.cells #[.slice none 0 0,.slice none 0 0,.slice none 0 0] 34)).alloc (Obj.cells #[.int .i64 0,.int .i64 0] 40)):=hM.below (below_alloc (below_alloc (Below.refl _ _) _) _)
 have HB0:=aq (below_alloc (below_alloc (Below.refl w.heap.size w) (Obj.cells #[.slice none 0 0,.slice none 0 0,.slice none 0 0] 34)) (Obj.cells #[.int .i64 0,.int .i64 0] 40))
 have hz2:=blk_alloc (World.alloc_heap_new w (Obj.cells #[.slice none 0 0,.slice none 0 0,.slice none 0 0] 34)) (Obj.cells #[.int .i64 0,.int .i64 0] 40)
 have hz3:=World.alloc_heap_new (w.alloc (Obj.cells #[.slice none 0 0,.slice none 0 0,.slice none 0 0] 34)) (Obj.cells #[.int .i64 0,.int .i64 0] 40)
 rw [World.size_alloc] at hz3
 obtain ⟨ls,er,at_,hls⟩ : ∃ ls er at_,linesL (bl s) = (ls,er,at_):=⟨_,_,_,rfl⟩
 have hbound : er = 0 → ls.length ≤ 65536 ∧ ∀ x ∈ ls,x.length ≤ 65536:=fun h => by
  have:=lines_bound (s:=bl s) (by rw [hls];exact h)
  rw [hls] at this
  exact this
 have hq : parseS (bl s) = (if er ≠ 0 then (([],[],[]),(er,at_)) else if (readsF ls 0 ([],[],[])).2 ≠ 0 then (([],[],[]),(1,(readsF ls 0 ([],[],[])).2)) else
   if (printS (readsF ls 0 ([],[],[])).1.1 (readsF ls 0 ([],[],[])).1.2.1 (readsF ls 0 ([],[],[])).1.2.2).2 ≠ 0 ∨ (printS (readsF ls 0 ([],[],[])).1.1 (readsF ls 0 ([],[],[])).1.2.1 (readsF ls 0 ([],[],[])).1.2.2).1 ≠ bl s then (([],[],[]),(5,0)) else ((readsF ls 0 ([],[],[])).1,(0,0))):=by
  unfold parseS
  rw [hls]
 rw [hls] at HLn
 have HZ2:=aq hz2
 have HZ3:=aq hz3
 have HM0:=aq hM0
 by_cases her : er = 0
 ·
  obtain ⟨hb1,hb2⟩:=hbound her
  subst her
  rw [if_neg (fun h => h rfl)] at hq
  obtain ⟨R,hR⟩ : ∃ R,R = readsF ls 0 ([],[],[]):=⟨_,rfl⟩
  rw [← hR] at hq
  have HR:=aq hR
  have HQ:=aq hq
  have HBd:=aq (And.intro hb1 hb2)
  have hlen : (ls.map lb).length = ls.length:=List.length_map _
  clear hq hbound hb1 hb2 hz2 hz3 hM0 hM hls hR
  have e0 : ((0 : Int) != 0) = false:=rfl
  obtain ⟨q,hqq⟩ : ∃ q,q = parseS (bl s):=⟨_,rfl⟩
  rw [← hqq] at HQ ⊢
  clear hqq
  go_enter Tryz.func15,Tryz.ntmps15
  go_wp2_with fail
  refine HLn.out.mono ?_
  rintro e w1 ⟨vL,rfl,hRL,hb⟩
  obtain ⟨AL,cL,rfl,hcL,hCL⟩:=Kd.R_reads hRL
  rw [hlen] at hcL
  have HCL:=aq hCL
  have HZ21:=aq (blk_below HZ2.out hb)
  have HZ31:=aq (blk_below HZ3.out hb)
  have HB1:=aq (below_step HB0.out hb)
  have HM1:=aq (HM0.out.below hb)
  clear hb hRL hCL
  go_wp2_with fail
  have HW5:=aq (below_alloc (below_alloc (Below.refl w1.heap.size w1) (Obj.cells #[.int .i64 0,.int .i64 at_] 40)) (Obj.cells #[.slice none 0 0,.slice none 0 0,.slice none 0 0] 34))
  have hown:=World.alloc_heap_new (w1.alloc (Obj.cells #[.int .i64 0,.int .i64 at_] 40)) (Obj.cells #[.slice none 0 0,.slice none 0 0,.slice none 0 0] 34)
  rw [World.size_alloc] at hown
  have hsz : w1.heap.size + 1 ≤ ((w1.alloc (Obj.cells #[.int .i64 0,.int .i64 at_] 40)).alloc (Obj.cells #[.slice none 0 0,.slice none 0 0,.slice none 0 0] 34)).heap.size:=by rw [World.size_alloc,World.size_alloc];omega
  obtain ⟨w5,hw5⟩ : ∃ W,(w1.alloc (Obj.cells #[.int .i64 0,.int .i64 at_] 40)).alloc (Obj.cells #[.slice none 0 0,.slice none 0 0,.slice none 0 0] 34) = W:=⟨_,rfl⟩
  rw [hw5] at HW5 hown hsz ⊢
  have nob : ∀ (a : Value),∀ q,(Value.slice none 0 0).ownBlock = some q → some q ≠ a.ownBlock:=fun a q h => by simp [Value.ownBlock] at h
  have HMO:=aq (MOwn.mk (base:=w1.heap.size + 1) (l0:=([] : List S23)) (l1:=([] : List S23)) (l2:=([] : List S23)) hown (Nat.le_refl _) (Kd.R_nil _ _ _ _ _) (Kd.R_nil _ _ _ _ _) (Kd.R_nil _ _ _ _ _) (nob _) (nob _) (nob _) (nob _) (nob _) (nob _))
  have HSZ:=aq hsz
  clear hw5 hown hsz nob
  go_loopg [26] ls.length (fun kq v26 wr => ∃ (i : Nat) (v0 v1 v2 : Value) (m : L3),v26 = .int .i64 (i : Int) ∧ i + kq = ls.length ∧ Aside0 (MOwn wr (w1.heap.size + 1) (w1.heap.size + 1) v0 v1 v2 m.1 m.2.1 m.2.2) ∧ Aside0 (readsF (ls.drop i) i m = R) ∧ Aside0 (okM m i) ∧ Aside0 (Below w1.heap.size w1 wr) ∧ Aside0 (w1.heap.size + 1 ≤ wr.heap.size))
  case atStart => exact ⟨0,_,_,_,([],[],[]),rfl,by omega,HMO,⟨HR.out.symm⟩,⟨by simp [okM]⟩,HW5,HSZ⟩
  case round =>
   obtain ⟨i,v0,v1,v2,m,rfl,hi,HO,HRe,HOk,HBw,HSw⟩:=hrel
   clear HMO HSZ HW5
   have hb65:=HBd.out.1
   have HZ2r:=aq (blk_below HZ21.out HBw.out)
   have HZ3r:=aq (blk_below HZ31.out HBw.out)
   have HMr:=aq (HM1.out.below HBw.out)
   have HBr:=aq (below_step HB1.out HBw.out)
   by_cases hlt : i < ls.length
   ·
    obtain ⟨ad,hA,h0⟩:=Kd.at_string (Kd.C_below HCL.out HBw.out) (i : Int) (by omega) (by rw [hlen];omega)
    subst hA
    rw [Int.toNat_natCast,rd_map ls i hlt] at h0
    have hdrop : ls.drop i = ls[i] :: ls.drop (i + 1):=List.drop_eq_getElem_cons hlt
    have hx65:=HBd.out.2 ls[i] (List.getElem_mem hlt)
    obtain ⟨x,hx⟩ : ∃ x,x = ls[i]:=⟨_,rfl⟩
    rw [← hx] at h0 hdrop hx65
    have hre:=HRe.out
    rw [hdrop,readsF] at hre
    have hd : decide ((i : Int) < (ls.length : Int)) = true:=decide_eq_true (by omega)
    have HRd:=aq (read_call (lb x) (by rw [lb_size];omega) wr HMr.out)
    rw [bl_lb] at HRd
    have HPut:=aq (fun (hr : (readS x).2.2 = true) W hW hz => put_call (w1.heap.size + 1) (w1.heap.size + 1) v0 v1 v2 m (readS x).1 (readS x).2.1 W (readS_len x hr).2.2 hW (by have:=HOk.out.1;omega) hz)
    have HOk2:=aq (fun (hr : (readS x).2.2 = true) => okM_put HOk.out hr (by omega))
    clear hx hdrop
    cases hok : (readS x).2.2 with
    | true =>
     rw [hok,if_pos rfl] at hre
     rw [hok] at HRd
     have HRe2:=aq hre
     have HOk3:=aq (HOk2.out hok)
     have HPut2:=aq (HPut.out hok)
     clear hok hre HPut HOk2
     go_wp2_with fail
     refine HRd.out.mono ?_
     rintro e w2 ⟨rfl,hb⟩
     have hb2:=below_alloc hb (Obj.cells #[.string (toP (readS x).2.1).f0,.string (toP (readS x).2.1).f1] 23)
     have HO2:=aq (HO.out.below hb2 HSw.out)
     have HBw2:=aq (below_step HBw.out hb2)
     have HSw2:=aq (Nat.le_trans HSw.out hb2.size)
     clear hb hb2 h0
     go_wp2_with fail
     refine (HPut2.out _ HO2.out HSw2.out).mono ?_
     rintro e w3 ⟨u0,u1,u2,rfl,hmo,hb3⟩
     have HO3:=aq hmo
     have HBw3:=aq (HBw2.out.trans (hb3.mono (Nat.le_succ _)))
     have HSw3:=aq (Nat.le_trans HSw2.out hb3.size)
     clear hmo hb3
     go_wp2_with fail
     go_roundg (gk - 1)
     case measure => omega
     case rel => exact ⟨i + 1,u0,u1,u2,putS m (readS x).1 (readS x).2.1,by simp,by omega,HO3,HRe2,HOk3,HBw3,HSw3⟩
    | false =>
     rw [hok,if_neg (by decide)] at hre
     rw [hok] at HRd
     have HQ2 : Aside0 (q = (([],[],[]),(1,(i : Int) + 1))):=⟨by
      have h1:=HQ.out
      rw [← hre] at h1
      rw [h1,if_pos (by show ¬ ((i : Int) + 1 = 0);omega)]⟩
     have q1 : (0 : Int) ≤ (i : Int):=by omega
     have q2 : (i : Int) ≤ 65536:=by omega
     clear hok hre HPut HOk2
     go_wp2_with fail
     refine HRd.out.mono ?_
     rintro e w2 ⟨rfl,hb⟩
     have HB2:=aq (below_step HBr.out hb)
     have HZ2s:=aq (blk_below HZ2r.out hb)
     have HZ3s:=aq (blk_below HZ3r.out hb)
     clear h0
     obtain ⟨a0,a1,a2⟩ : w2.cell? ⟨w.heap.size,0,none⟩ = some (.slice none 0 0) ∧ w2.cell? ⟨w.heap.size,1,none⟩ = some (.slice none 0 0) ∧ w2.cell? ⟨w.heap.size,2,none⟩ = some (.slice none 0 0):=⟨blk_cell (blk_below HZ2r.out hb) 0,blk_cell (blk_below HZ2r.out hb) 1,blk_cell (blk_below HZ2r.out hb) 2⟩
     obtain ⟨c0,c1⟩ : w2.cell? ⟨w.heap.size + 1,0,none⟩ = some (.int .i64 0) ∧ w2.cell? ⟨w.heap.size + 1,1,none⟩ = some (.int .i64 0):=⟨blk_cell (blk_below HZ3r.out hb) 0,blk_cell (blk_below HZ3r.out hb) 1⟩
     have f2:=blk_frozen (blk_below HZ2r.out hb)
     have f3:=blk_frozen (blk_below HZ3r.out hb)
     have g2:=blk_lt (blk_below HZ2r.out hb)
     have g3:=blk_lt (blk_below HZ3r.out hb)
     clear hb
     go_wp2_with fail
     rw [HQ2.out]
     exact bodyPost_ret (results_cc rfl _ _ w.heap.size (w.heap.size + 1) 34 40 #[.slice none 0 0,.slice none 0 0,.slice none 0 0] #[.int .i64 1,.int .i64 ((i : Int) + 1)] (0,0) (0,0) _ _ rfl (blk_alloc ((set2_far (by omega) _ _).trans (set3_own HZ2s.out _ _ _)) _) Tryz.underlying34 rfl (by kernel_rfl) rfl (blk_alloc (set2_own ((set3_far (by omega) _ _ _).trans HZ3s.out) _ _) _) Tryz.underlying40 rfl (by kernel_rfl)) rfl ⟨_,_,_,rfl,Kd.R_nil _ _ _ _ _,Kd.R_nil _ _ _ _ _,Kd.R_nil _ _ _ _ _,below_alloc (below_set (below_set (below_set (below_set (below_set HB2.out (Nat.le_refl _)) (Nat.le_refl _)) (Nat.le_refl _)) (by omega)) (by omega)) _⟩
   ·
    have hil : i = ls.length:=by omega
    obtain ⟨l0,l1,l2⟩:=m
    have hre : R = ((l0,l1,l2),0):=by
     have h:=HRe.out
     rw [List.drop_of_length_le (by omega)] at h
     exact h.symm
    have hqq : q = (if (printS l0 l1 l2).2 ≠ 0 ∨ (printS l0 l1 l2).1 ≠ bl s then (([],[],[]),(5,0)) else ((l0,l1,l2),(0,0))):=by
     have h:=HQ.out
     rw [hre,if_neg (fun h => h rfl)] at h
     exact h
    obtain ⟨A0,c0,rfl,hc0,hC0⟩:=Kd.R_reads HO.out.r0
    obtain ⟨A1,c1,rfl,hc1,hC1⟩:=Kd.R_reads HO.out.r1
    obtain ⟨A2,c2,rfl,hc2,hC2⟩:=Kd.R_reads HO.out.r2
    have HPr:=aq (legend_print' A0 c0 l0 A1 c1 l1 A2 c2 l2 wr hC0 hc0 hC1 hc1 hC2 hc2 ⟨by have:=HOk.out.1;omega,HOk.out.2⟩ HMr.out)
    obtain ⟨t,pe,hp⟩ : ∃ t pe,printS l0 l1 l2 = (t,pe):=⟨_,_,rfl⟩
    rw [hp] at HPr hqq
    replace hqq : q = (if pe ≠ 0 ∨ t ≠ bl s then (([],[],[]),(5,0)) else ((l0,l1,l2),(0,0))):=hqq
    have HQQ:=aq hqq
    have hd : decide ((i : Int) < (ls.length : Int)) = false:=decide_eq_false (by omega)
    obtain ⟨m0,m1,m2⟩ : wr.cell? ⟨w1.heap.size + 1,0,none⟩ = some (.slice A0 l0.length c0) ∧ wr.cell? ⟨w1.heap.size + 1,1,none⟩ = some (.slice A1 l1.length c1) ∧ wr.cell? ⟨w1.heap.size + 1,2,none⟩ = some (.slice A2 l2.length c2):=⟨blk_cell HO.out.b 0,blk_cell HO.out.b 1,blk_cell HO.out.b 2⟩
    have hwl : w.heap.size + 1 < w1.heap.size:=blk_lt HZ31.out
    clear hre hqq hp hC0 hC1 hC2 hil
    go_wp2_with fail
    refine HPr.out.mono ?_
    rintro e w6 ⟨rfl,hb⟩
    have HO6:=aq (HO.out.below hb HSw.out)
    have HZ6:=aq (blk_below HZ2r.out hb)
    have HZ63:=aq (blk_below HZ3r.out hb)
    have HB6:=aq (below_step HBr.out hb)
    obtain ⟨a0,a1,a2⟩ : w6.cell? ⟨w.heap.size,0,none⟩ = some (.slice none 0 0) ∧ w6.cell? ⟨w.heap.size,1,none⟩ = some (.slice none 0 0) ∧ w6.cell? ⟨w.heap.size,2,none⟩ = some (.slice none 0 0):=⟨blk_cell HZ6.out 0,blk_cell HZ6.out 1,blk_cell HZ6.out 2⟩
    obtain ⟨d0,d1⟩ : w6.cell? ⟨w.heap.size + 1,0,none⟩ = some (.int .i64 0) ∧ w6.cell? ⟨w.heap.size + 1,1,none⟩ = some (.int .i64 0):=⟨blk_cell HZ63.out 0,blk_cell HZ63.out 1⟩
    have f2:=blk_frozen HZ6.out
    have f3:=blk_frozen HZ63.out
    have g2:=blk_lt HZ6.out
    have g3:=blk_lt HZ63.out
    clear hb m0 m1 m2
    by_cases hpe : pe = 0
    ·
     subst hpe
     have p1 : ((0 : Int) != 0) = false:=rfl
     by_cases hts : t = bl s
     ·
      have HQ2 : Aside0 (q = ((l0,l1,l2),(0,0))):=⟨by rw [HQQ.out,if_neg (fun h => h.elim (fun h => h rfl) (fun h => h hts))]⟩
      have hlt' : lb t = s:=by rw [hts,lb_bl]
      have t1 : ((lb t).toList == s.toList) = true:=by rw [hlt'];exact beq_self_eq_true _
      obtain ⟨m0,m1,m2⟩ : w6.cell? ⟨w1.heap.size + 1,0,none⟩ = some (.slice A0 l0.length c0) ∧ w6.cell? ⟨w1.heap.size + 1,1,none⟩ = some (.slice A1 l1.length c1) ∧ w6.cell? ⟨w1.heap.size + 1,2,none⟩ = some (.slice A2 l2.length c2):=⟨blk_cell HO6.out.b 0,blk_cell HO6.out.b 1,blk_cell HO6.out.b 2⟩
      clear hts hlt'
      go_wp2_with fail
      rw [HQ2.out]
      have hmv : ∀ (v : Value) (l : List S23),Kd.R k23 23 w6 (w1.heap.size + 1) (fun _ => True) v l → Kd.R k23 23 ((((((w6.setCell ⟨w.heap.size,0,none⟩ (.slice A0 l0.length c0)).setCell ⟨w.heap.size,1,none⟩ (.slice A1 l1.length c1)).setCell ⟨w.heap.size,2,none⟩ (.slice A2 l2.length c2)).setCell ⟨w.heap.size + 1,0,none⟩ (.int .i64 0)).setCell ⟨w.heap.size + 1,1,none⟩ (.int .i64 0))) w.heap.size (fun _ => True) v l:=fun v l h =>
       Kd.R_lower (Kd.R_mono (Kd.R_move (Kd.R_bound h) (fun k hk => (set2_far (by have:=hk.2.1;omega) _ _).trans (set3_far (by have:=hk.2.1;omega) _ _ _))) (fun _ _ => trivial)) (by omega)
      have hb2 : ((((((w6.setCell ⟨w.heap.size,0,none⟩ (.slice A0 l0.length c0)).setCell ⟨w.heap.size,1,none⟩ (.slice A1 l1.length c1)).setCell ⟨w.heap.size,2,none⟩ (.slice A2 l2.length c2)).setCell ⟨w.heap.size + 1,0,none⟩ (.int .i64 0)).setCell ⟨w.heap.size + 1,1,none⟩ (.int .i64 0))).heap[w.heap.size]? = some (Obj.cells #[.slice A0 l0.length c0,.slice A1 l1.length c1,.slice A2 l2.length c2] 34 (0,0)):=(set2_far (by omega) _ _).trans (set3_own HZ6.out _ _ _)
      have hb3 : ((((((w6.setCell ⟨w.heap.size,0,none⟩ (.slice A0 l0.length c0)).setCell ⟨w.heap.size,1,none⟩ (.slice A1 l1.length c1)).setCell ⟨w.heap.size,2,none⟩ (.slice A2 l2.length c2)).setCell ⟨w.heap.size + 1,0,none⟩ (.int .i64 0)).setCell ⟨w.heap.size + 1,1,none⟩ (.int .i64 0))).heap[w.heap.size + 1]? = some (Obj.cells #[.int .i64 0,.int .i64 0] 40 (0,0)):=set2_own ((set3_far (by omega) _ _ _).trans HZ63.out) _ _
      have hbw : Below w.heap.size w ((((((w6.setCell ⟨w.heap.size,0,none⟩ (.slice A0 l0.length c0)).setCell ⟨w.heap.size,1,none⟩ (.slice A1 l1.length c1)).setCell ⟨w.heap.size,2,none⟩ (.slice A2 l2.length c2)).setCell ⟨w.heap.size + 1,0,none⟩ (.int .i64 0)).setCell ⟨w.heap.size + 1,1,none⟩ (.int .i64 0))):=below_set (below_set (below_set (below_set (below_set HB6.out (Nat.le_refl _)) (Nat.le_refl _)) (Nat.le_refl _)) (by omega)) (by omega)
      have k0:=hmv _ _ HO6.out.r0
      have k1:=hmv _ _ HO6.out.r1
      have k2:=hmv _ _ HO6.out.r2
      clear hmv
      obtain ⟨wf,hwf⟩ : ∃ W,W = ((((((w6.setCell ⟨w.heap.size,0,none⟩ (.slice A0 l0.length c0)).setCell ⟨w.heap.size,1,none⟩ (.slice A1 l1.length c1)).setCell ⟨w.heap.size,2,none⟩ (.slice A2 l2.length c2)).setCell ⟨w.heap.size + 1,0,none⟩ (.int .i64 0)).setCell ⟨w.heap.size + 1,1,none⟩ (.int .i64 0))):=⟨_,rfl⟩
      rw [← hwf] at hb2 hb3 hbw k0 k1 k2 ⊢
      clear hwf
      exact bodyPost_ret (results_cc rfl _ _ w.heap.size (w.heap.size + 1) 34 40 #[.slice A0 l0.length c0,.slice A1 l1.length c1,.slice A2 l2.length c2] #[.int .i64 0,.int .i64 0] (0,0) (0,0) _ _ rfl hb2 Tryz.underlying34 rfl (by kernel_rfl) rfl hb3 Tryz.underlying40 rfl (by kernel_rfl)) rfl ⟨_,_,_,rfl,k0,k1,k2,hbw⟩
     ·
      have HQ2 : Aside0 (q = (([],[],[]),(5,0))):=⟨by rw [HQQ.out,if_pos (.inr hts)]⟩
      have t1 : ((lb t).toList == s.toList) = false:=beq_eq_false_iff_ne.2 (by rw [toList_bl,toList_bl,bl_lb];exact hts)
      clear hts
      go_wp2_with fail
      rw [HQ2.out]
      exact bodyPost_ret (results_cc rfl _ _ w.heap.size (w.heap.size + 1) 34 40 #[.slice none 0 0,.slice none 0 0,.slice none 0 0] #[.int .i64 5,.int .i64 0] (0,0) (0,0) _ _ rfl ((set2_far (by omega) _ _).trans (set3_own HZ6.out _ _ _)) Tryz.underlying34 rfl (by kernel_rfl) rfl (set2_own ((set3_far (by omega) _ _ _).trans HZ63.out) _ _) Tryz.underlying40 rfl (by kernel_rfl)) rfl ⟨_,_,_,rfl,Kd.R_nil _ _ _ _ _,Kd.R_nil _ _ _ _ _,Kd.R_nil _ _ _ _ _,below_set (below_set (below_set (below_set (below_set HB6.out (Nat.le_refl _)) (Nat.le_refl _)) (Nat.le_refl _)) (by omega)) (by omega)⟩
    ·
     have HQ2 : Aside0 (q = (([],[],[]),(5,0))):=⟨by rw [HQQ.out,if_pos (.inl hpe)]⟩
     have p1 : (pe != 0) = true:=bne_iff_ne.2 hpe
     clear hpe
     go_wp2_with fail
     rw [HQ2.out]
     exact bodyPost_ret (results_cc rfl _ _ w.heap.size (w.heap.size + 1) 34 40 #[.slice none 0 0,.slice none 0 0,.slice none 0 0] #[.int .i64 5,.int .i64 0] (0,0) (0,0) _ _ rfl ((set2_far (by omega) _ _).trans (set3_own HZ6.out _ _ _)) Tryz.underlying34 rfl (by kernel_rfl) rfl (set2_own ((set3_far (by omega) _ _ _).trans HZ63.out) _ _) Tryz.underlying40 rfl (by kernel_rfl)) rfl ⟨_,_,_,rfl,Kd.R_nil _ _ _ _ _,Kd.R_nil _ _ _ _ _,Kd.R_nil _ _ _ _ _,below_set (below_set (below_set (below_set (below_set HB6.out (Nat.le_refl _)) (Nat.le_refl _)) (Nat.le_refl _)) (by omega)) (by omega)⟩
 ·
  have hqq : parseS (bl s) = (([],[],[]),(er,at_)):=by rw [hq,if_pos her]
  have HQ2:=aq hqq
  have e0 : (er != 0) = true:=bne_iff_ne.2 her
  have hlen : (ls.map lb).length = ls.length:=List.length_map _
  clear hq hqq hbound hz2 hz3 hM0 hM hls her
  obtain ⟨q,hqq⟩ : ∃ q,q = parseS (bl s):=⟨_,rfl⟩
  rw [← hqq] at HQ2 ⊢
  clear hqq
  go_enter Tryz.func15,Tryz.ntmps15
  go_wp2_with fail
  refine HLn.out.mono ?_
  rintro e w1 ⟨vL,rfl,hRL,hb⟩
  obtain ⟨AL,cL,rfl,hcL,hCL⟩:=Kd.R_reads hRL
  have HZ6:=aq (blk_below HZ2.out hb)
  have HZ63:=aq (blk_below HZ3.out hb)
  have HB6:=aq (below_step HB0.out hb)
  obtain ⟨a0,a1,a2⟩ : w1.cell? ⟨w.heap.size,0,none⟩ = some (.slice none 0 0) ∧ w1.cell? ⟨w.heap.size,1,none⟩ = some (.slice none 0 0) ∧ w1.cell? ⟨w.heap.size,2,none⟩ = some (.slice none 0 0):=⟨blk_cell HZ6.out 0,blk_cell HZ6.out 1,blk_cell HZ6.out 2⟩
  obtain ⟨d0,d1⟩ : w1.cell? ⟨w.heap.size + 1,0,none⟩ = some (.int .i64 0) ∧ w1.cell? ⟨w.heap.size + 1,1,none⟩ = some (.int .i64 0):=⟨blk_cell HZ63.out 0,blk_cell HZ63.out 1⟩
  have f2:=blk_frozen HZ6.out
  have f3:=blk_frozen HZ63.out
  have g2:=blk_lt HZ6.out
  have g3:=blk_lt HZ63.out
  clear hb hRL hCL hcL
  go_wp2_with fail
  have HY:=aq (World.alloc_heap_new w1 (Obj.cells #[.int .i64 er,.int .i64 at_] 40))
  obtain ⟨y0,y1⟩ : (w1.alloc (Obj.cells #[.int .i64 er,.int .i64 at_] 40)).cell? ⟨w1.heap.size,0,none⟩ = some (.int .i64 er) ∧ (w1.alloc (Obj.cells #[.int .i64 er,.int .i64 at_] 40)).cell? ⟨w1.heap.size,1,none⟩ = some (.int .i64 at_):=⟨blk_cell HY.out 0,blk_cell HY.out 1⟩
  go_region_with (fail)
  all_goals go_wp2_with fail
  all_goals (
   rw [HQ2.out]
   have hb2 : (((((w1.setCell ⟨w.heap.size,0,none⟩ (.slice none 0 0)).setCell ⟨w.heap.size,1,none⟩ (.slice none 0 0)).setCell ⟨w.heap.size,2,none⟩ (.slice none 0 0)).setCell ⟨w.heap.size + 1,0,none⟩ (.int .i64 er)).setCell ⟨w.heap.size + 1,1,none⟩ (.int .i64 at_)).heap[w.heap.size]? = some (Obj.cells #[.slice none 0 0,.slice none 0 0,.slice none 0 0] 34 (0,0)):=(set2_far (by omega) _ _).trans (set3_own HZ6.out _ _ _)
   have hb3 : (((((w1.setCell ⟨w.heap.size,0,none⟩ (.slice none 0 0)).setCell ⟨w.heap.size,1,none⟩ (.slice none 0 0)).setCell ⟨w.heap.size,2,none⟩ (.slice none 0 0)).setCell ⟨w.heap.size + 1,0,none⟩ (.int .i64 er)).setCell ⟨w.heap.size + 1,1,none⟩ (.int .i64 at_)).heap[w.heap.size + 1]? = some (Obj.cells #[.int .i64 er,.int .i64 at_] 40 (0,0)):=set2_own ((set3_far (by omega) _ _ _).trans HZ63.out) _ _
   have hbw : Below w.heap.size w (((((w1.setCell ⟨w.heap.size,0,none⟩ (.slice none 0 0)).setCell ⟨w.heap.size,1,none⟩ (.slice none 0 0)).setCell ⟨w.heap.size,2,none⟩ (.slice none 0 0)).setCell ⟨w.heap.size + 1,0,none⟩ (.int .i64 er)).setCell ⟨w.heap.size + 1,1,none⟩ (.int .i64 at_)):=below_set (below_set (below_set (below_set (below_set HB6.out (Nat.le_refl _)) (Nat.le_refl _)) (Nat.le_refl _)) (by omega)) (by omega)
   obtain ⟨wf,hwf⟩ : ∃ W,W = (((((w1.setCell ⟨w.heap.size,0,none⟩ (.slice none 0 0)).setCell ⟨w.heap.size,1,none⟩ (.slice none 0 0)).setCell ⟨w.heap.size,2,none⟩ (.slice none 0 0)).setCell ⟨w.heap.size + 1,0,none⟩ (.int .i64 er)).setCell ⟨w.heap.size + 1,1,none⟩ (.int .i64 at_)):=⟨_,rfl⟩
   rw [← hwf] at hb2 hb3 hbw ⊢
   clear hwf
   have hc2 : ((wf.alloc (Obj.cells #[.int .i64 er,.int .i64 at_] 40)).drew).heap[w.heap.size]? = some (Obj.cells #[.slice none 0 0,.slice none 0 0,.slice none 0 0] 34 (0,0)):=blk_alloc hb2 _
   have hc3 : ((wf.alloc (Obj.cells #[.int .i64 er,.int .i64 at_] 40)).drew).heap[w.heap.size + 1]? = some (Obj.cells #[.int .i64 er,.int .i64 at_] 40 (0,0)):=blk_alloc hb3 _
   exact bodyPost_ret (results_cc rfl _ _ w.heap.size (w.heap.size + 1) 34 40 #[.slice none 0 0,.slice none 0 0,.slice none 0 0] #[.int .i64 er,.int .i64 at_] (0,0) (0,0) _ _ rfl hc2 Tryz.underlying34 rfl (by kernel_rfl) rfl hc3 Tryz.underlying40 rfl (by kernel_rfl)) rfl ⟨_,_,_,rfl,Kd.R_nil _ _ _ _ _,Kd.R_nil _ _ _ _ _,Kd.R_nil _ _ _ _ _,below_drew1 (below_alloc hbw _)⟩)
end Go.Proofs.YtaokkkolbifdpaaGreatDoor.Hand
end

section
namespace Go.Proofs.YtaokkkolbifdpaaGreatDoor.Q33
open Go.RowKit Go.Proofs.YtaokkkolbifdpaaGreatDoorW
open PrintWords PrintLast PrintMore Go.Proofs.YtaokkkolbifdpaaGreatDoor.Hand
attribute [local go_sem] max2_int min2_int max_two min_two max_three min_three max_four min_four
def errW : Option Int → Value
  | none => .nilIface
  | some c => .iface 0 (.int .i64 c)
theorem errW_none : errW none = .nilIface := rfl
theorem errW_some (c : Int) : errW (some c) = .iface 0 (.int .i64 c) := rfl
theorem eqA23 (d : Nat) (w : World) (x0 y0 : ByteArray) (x1 y1 : ByteArray) :
    (Op.equalIn (d + 2) 23 (.agg #[.string x0,.string x1]) (.agg #[.string y0,.string y1])).run Tryz.prog w = .ok (x0.toList == y0.toList && (x1.toList == y1.toList)) w:=by
 refine eqA_of Tryz.underlying23 (by kernel_rfl) ?_
 refine eqf_cons (by rfl) (by go_simp;rfl) (by go_simp;rfl) (by go_simp) ?_
 exact eqf_last (by rfl) (by go_simp;rfl) (by go_simp;rfl) (by go_simp)
end Go.Proofs.YtaokkkolbifdpaaGreatDoor.Q33
end

section
namespace Go.Proofs.YtaokkkolbifdpaaGreatDoor.Q33
open Go.RowKit Go.Proofs.YtaokkkolbifdpaaGreatDoorW
open PrintWords PrintLast PrintMore Go.Proofs.YtaokkkolbifdpaaGreatDoor.Hand
attribute [local go_sem] max2_int min2_int max_two min_two max_three min_three max_four min_four
attribute [local go_sem high] eqA23
def sr19_SamePairs.l0 : Nat → List (S23) → List (S23) → Int → Option (Bool)
  | 0,_,_,_ => none
  | k + 1,x0,x1,x5 => if x5 < (x0.length : Int) then (if 0 ≤ x5 then (if x5 < (x1.length : Int) then (if (!((((rd_T23 x0 x5).f0).toList) == (((rd_T23 x1 x5).f0).toList)) || (!((((rd_T23 x0 x5).f1).toList) == (((rd_T23 x1 x5).f1).toList)))) = true then (some false) else (sr19_SamePairs.l0 k x0 x1 (wrap64 (x5 + 1)))) else (none)) else (none)) else (some true)
def sr19_SamePairs.f (k : Nat) (l0 : List (S23)) (l1 : List (S23)) : Option (Bool) := if (l0.length : Int) = (l1.length : Int) then (sr19_SamePairs.l0 k l0 l1 0) else (some false)
theorem sr19_SamePairs.calls (k : Nat) (A0 : Option Addr) (c0 : Nat) (l0 : List (S23)) (A1 : Option Addr) (c1 : Nat) (l1 : List (S23)) (r : Bool) (w : World) (hr0 : Kd.C k23 w A0 l0.length l0) (hc0 : l0.length ≤ c0) (hr1 : Kd.C k23 w A1 l1.length l1) (hc1 : l1.length ≤ c1) (h : sr19_SamePairs.f k l0 l1 = some r) :
    Calls Tryz.prog 34 #[.slice A0 l0.length c0,.slice A1 l1.length c1] w fun e w' => e = .returned (.bool r) ∧ Drawn0 w w':=by
 have hu23:=Tryz.underlying23
 have HR0:=aq hr0
 have HC0:=aq hc0
 clear hr0 hc0
 have HR1:=aq hr1
 have HC1:=aq hc1
 clear hr1 hc1
 have H : (if (l0.length : Int) = (l1.length : Int) then (sr19_SamePairs.l0 k l0 l1 0) else (some false)) = some r:=h
 clear h
 by_cases c3 : (l0.length : Int) = (l1.length : Int)
 rotate_left
 · rw [if_neg c3] at H
   have c3b0 : ((l0.length : Int) == (l1.length : Int)) = false:=beq_eq_false_iff_ne.mpr c3
   have c3b1 : ((l0.length : Int) != (l1.length : Int)) = true:=bne_iff_ne.mpr c3
   have c3b2 : (l0.length == l1.length) = false:=by first|simpa using c3|(simp at c3 ⊢;omega)
   obtain rfl:=Option.some.inj H
   go_enter Tryz.func34,Tryz.ntmps34
   go_wp2
   repeat (go_quiet (fail);try go_wp2)
   go_ret
   exact ⟨eS,dR⟩
 rw [if_pos c3] at H
 have c3b0 : ((l0.length : Int) == (l1.length : Int)) = true:=beq_iff_eq.mpr c3
 have c3b1 : ((l0.length : Int) != (l1.length : Int)) = false:=bne_eq_false_iff_eq.mpr c3
 have c3b2 : (l0.length == l1.length) = true:=by first|simpa using c3|(simp at c3 ⊢;omega)
 clear c3
 have H':=aq H
 clear H
 go_enter Tryz.func34,Tryz.ntmps34
 go_wp2
 repeat (go_quiet (fail);try go_wp2)
 go_loopg [5] k (fun kq v5 w' => ∃ (x5_1 : Int),v5 = .int .i64 x5_1 ∧ Aside0 (sr19_SamePairs.l0 kq l0 l1 x5_1 = some r) ∧ Aside0 (kq ≤ k) ∧ Drawn0 w w')
 case atStart => exact ⟨(0),eS,H',⟨Nat.le_refl _⟩,dR⟩
 case round =>
 clear H'
 (try clear c1);(try clear c3);(try clear c3b0);(try clear c3b1);(try clear c3b2)
 obtain ⟨x5_1,rfl,HA,HK1,⟨m1,rfl⟩⟩:=hrel
 cases gk with
 | zero => exact absurd HA.out (by simp [sr19_SamePairs.l0])
 | succ k1 =>
 have H:=HA.out
 clear HA
 simp only [sr19_SamePairs.l0] at H
 by_cases c4 : x5_1 < (l0.length : Int)
 rotate_left
 · rw [if_neg c4] at H
   have c4b0 : decide (x5_1 < (l0.length : Int)) = false:=decide_eq_false c4
   clear c4
   obtain rfl:=Option.some.inj H
   go_wp2
   repeat (go_quiet (fail);try go_wp2)
   go_ret
   exact ⟨eS,dR⟩
 rw [if_pos c4] at H
 have c4b0 : decide (x5_1 < (l0.length : Int)) = true:=decide_eq_true c4
 clear c4
 by_cases c5 : 0 ≤ x5_1
 rotate_left
 · rw [if_neg c5] at H
   exact absurd H (by simp)
 rw [if_pos c5] at H
 have c5b0 : decide (0 ≤ x5_1) = true:=decide_eq_true c5
 clear c5
 by_cases c6 : x5_1 < (l1.length : Int)
 rotate_left
 · rw [if_neg c6] at H
   exact absurd H (by simp)
 rw [if_pos c6] at H
 have c6b0 : decide (x5_1 < (l1.length : Int)) = true:=decide_eq_true c6
 clear c6
 by_cases c7 : (!((((rd_T23 l0 x5_1).f0).toList) == (((rd_T23 l1 x5_1).f0).toList)) || (!((((rd_T23 l0 x5_1).f1).toList) == (((rd_T23 l1 x5_1).f1).toList)))) = true
 · rw [if_pos c7] at H
   have c7b0 : (!((((rd_T23 l0 x5_1).f0).toList) == (((rd_T23 l1 x5_1).f0).toList)) || (!((((rd_T23 l0 x5_1).f1).toList) == (((rd_T23 l1 x5_1).f1).toList)))) = true:=c7
   clear c7
   obtain rfl:=Option.some.inj H
   have p101 : 0 ≤ (x5_1 : Int):=of_decide_eq_true aS
   have q101 : x5_1 < (l0.length : Int):=of_decide_eq_true aS
   obtain ⟨ad101,e101,hx101_0,hx101_1⟩:=at_T23 HR0.out x5_1 p101 q101
   cases e101
   replace p101:=eq_true p101
   replace q101:=eq_true q101
   have p102 : 0 ≤ (x5_1 : Int):=of_decide_eq_true aS
   have q102 : x5_1 < (l1.length : Int):=of_decide_eq_true aS
   obtain ⟨ad102,e102,hx102_0,hx102_1⟩:=at_T23 HR1.out x5_1 p102 q102
   cases e102
   replace p102:=eq_true p102
   replace q102:=eq_true q102
   go_wp2
   repeat (go_quiet (fail);try go_wp2)
   go_ret
   exact ⟨eS,dR⟩
 rw [if_neg c7] at H
 have c7b0 : (!((((rd_T23 l0 x5_1).f0).toList) == (((rd_T23 l1 x5_1).f0).toList)) || (!((((rd_T23 l0 x5_1).f1).toList) == (((rd_T23 l1 x5_1).f1).toList)))) = false:=by simpa using c7
 clear c7
 have H':=aq H
 clear H
 have p101 : 0 ≤ (x5_1 : Int):=of_decide_eq_true aS
 have q101 : x5_1 < (l0.length : Int):=of_decide_eq_true aS
 obtain ⟨ad101,e101,hx101_0,hx101_1⟩:=at_T23 HR0.out x5_1 p101 q101
 cases e101
 replace p101:=eq_true p101
 replace q101:=eq_true q101
 have p102 : 0 ≤ (x5_1 : Int):=of_decide_eq_true aS
 have q102 : x5_1 < (l1.length : Int):=of_decide_eq_true aS
 obtain ⟨ad102,e102,hx102_0,hx102_1⟩:=at_T23 HR1.out x5_1 p102 q102
 cases e102
 replace p102:=eq_true p102
 replace q102:=eq_true q102
 go_wp2
 repeat (go_quiet (fail);try go_wp2)
 go_roundg k1
 case measure => have:=HK1.out;omega
 case rel => exact ⟨(wrap64 (x5_1 + 1)),eS,H',⟨by have:=HK1.out;omega⟩,dR⟩
def sr29_Same.f (k : Nat) (l0_0 : List (S23)) (l0_1 : List (S23)) (l0_2 : List (S23)) (l1_0 : List (S23)) (l1_1 : List (S23)) (l1_2 : List (S23)) : Option (Bool) := (sr19_SamePairs.f k l0_0 l1_0).bind fun t105 => (if t105 = true then ((sr19_SamePairs.f k l0_1 l1_1).bind fun t106 => (if t106 = true then ((sr19_SamePairs.f k l0_2 l1_2).bind fun t107 => (some t107)) else (some false))) else (some false))
theorem sr29_Same.calls (k : Nat) (A0_0 : Option Addr) (c0_0 : Nat) (l0_0 : List (S23)) (A0_1 : Option Addr) (c0_1 : Nat) (l0_1 : List (S23)) (A0_2 : Option Addr) (c0_2 : Nat) (l0_2 : List (S23)) (A1_0 : Option Addr) (c1_0 : Nat) (l1_0 : List (S23)) (A1_1 : Option Addr) (c1_1 : Nat) (l1_1 : List (S23)) (A1_2 : Option Addr) (c1_2 : Nat) (l1_2 : List (S23)) (r : Bool) (w : World) (hr0_0 : Kd.C k23 w A0_0 l0_0.length l0_0) (hc0_0 : l0_0.length ≤ c0_0) (hr0_1 : Kd.C k23 w A0_1 l0_1.length l0_1) (hc0_1 : l0_1.length ≤ c0_1) (hr0_2 : Kd.C k23 w A0_2 l0_2.length l0_2) (hc0_2 : l0_2.length ≤ c0_2) (hr1_0 : Kd.C k23 w A1_0 l1_0.length l1_0) (hc1_0 : l1_0.length ≤ c1_0) (hr1_1 : Kd.C k23 w A1_1 l1_1.length l1_1) (hc1_1 : l1_1.length ≤ c1_1) (hr1_2 : Kd.C k23 w A1_2 l1_2.length l1_2) (hc1_2 : l1_2.length ≤ c1_2) (h : sr29_Same.f k l0_0 l0_1 l0_2 l1_0 l1_1 l1_2 = some r) :
    Calls Tryz.prog 17 #[.agg #[.slice A0_0 l0_0.length c0_0,.slice A0_1 l0_1.length c0_1,.slice A0_2 l0_2.length c0_2],.agg #[.slice A1_0 l1_0.length c1_0,.slice A1_1 l1_1.length c1_1,.slice A1_2 l1_2.length c1_2]] w fun e w' => e = .returned (.bool r) ∧ Below w.heap.size w w':=by
 have hu34:=Tryz.underlying34
 have HR0_0:=aq hr0_0
 have HC0_0:=aq hc0_0
 clear hr0_0 hc0_0
 have HR0_1:=aq hr0_1
 have HC0_1:=aq hc0_1
 clear hr0_1 hc0_1
 have HR0_2:=aq hr0_2
 have HC0_2:=aq hc0_2
 clear hr0_2 hc0_2
 have HR1_0:=aq hr1_0
 have HC1_0:=aq hc1_0
 clear hr1_0 hc1_0
 have HR1_1:=aq hr1_1
 have HC1_1:=aq hc1_1
 clear hr1_1 hc1_1
 have HR1_2:=aq hr1_2
 have HC1_2:=aq hc1_2
 clear hr1_2 hc1_2
 have HB:=aq (Below.refl w.heap.size w)
 have H : ((sr19_SamePairs.f k l0_0 l1_0).bind fun t105 => (if t105 = true then ((sr19_SamePairs.f k l0_1 l1_1).bind fun t106 => (if t106 = true then ((sr19_SamePairs.f k l0_2 l1_2).bind fun t107 => (some t107)) else (some false))) else (some false))) = some r:=h
 clear h
 replace H:=Option.bind_eq_some_iff.mp H
 obtain ⟨t105,A30,H⟩:=H
 have A3:=aq A30
 clear A30
 by_cases c4 : t105 = true
 rotate_left
 · replace c4:=Bool.eq_false_iff.mpr c4
   subst c4
   have H1 : (some false) = some r:=by rw [if_neg (show ¬ (false = true) by decide)] at H;exact H
   clear H
   have H:=H1
   clear H1
   obtain rfl:=Option.some.inj H
   go_enter Tryz.func17,Tryz.ntmps17
   go_wp2_with (first|((with_reducible refine gate_dst (N:=2) rfl ?_);refine box_event rfl (N:=2) rfl (cs:=#[.slice A0_0 l0_0.length c0_0,.slice A0_1 l0_1.length c0_1,.slice A0_2 l0_2.length c0_2]) (t:=34) gS ?_;intro gb103 hg w18 hbox hb;have BK103:=aq (hbox);have GE103:=aq ((GN hg : w.heap.size ≤ gb103));replace HB:=aq (below_step bH hb);clear hb hbox hg)|((with_reducible refine gate_dst (N:=3) rfl ?_);refine box_event rfl (N:=3) rfl (cs:=#[.slice A1_0 l1_0.length c1_0,.slice A1_1 l1_1.length c1_1,.slice A1_2 l1_2.length c1_2]) (t:=34) gS ?_;intro gb104 hg w19 hbox hb;have BK104:=aq (hbox);have GE104:=aq ((GN hg : w.heap.size ≤ gb104));have NB103_104:=aq (NL hg BK103);have NB104_103:=aq (NG hg BK103);replace BK103:=KN BK103 hb;replace HB:=aq (below_step bH hb);clear hb hbox hg;have hnb20:=NB103_104.out;have hnc20:=NB104_103.out;have hcz21_0 : w19.cell? ⟨gb103,0,none⟩ = some (.slice A0_0 l0_0.length c0_0):=(blk_cell BK103.out 0).trans rfl;have hcz21_1 : w19.cell? ⟨gb103,1,none⟩ = some (.slice A0_1 l0_1.length c0_1):=(blk_cell BK103.out 1).trans rfl;have hcz21_2 : w19.cell? ⟨gb103,2,none⟩ = some (.slice A0_2 l0_2.length c0_2):=(blk_cell BK103.out 2).trans rfl;have hfz21_0:=blk_frozen BK103.out 0;have hfz21_1:=blk_frozen BK103.out 1;have hfz21_2:=blk_frozen BK103.out 2;have hcz22_0 : w19.cell? ⟨gb104,0,none⟩ = some (.slice A1_0 l1_0.length c1_0):=(blk_cell BK104.out 0).trans rfl;have hcz22_1 : w19.cell? ⟨gb104,1,none⟩ = some (.slice A1_1 l1_1.length c1_1):=(blk_cell BK104.out 1).trans rfl;have hcz22_2 : w19.cell? ⟨gb104,2,none⟩ = some (.slice A1_2 l1_2.length c1_2):=(blk_cell BK104.out 2).trans rfl;have hfz22_0:=blk_frozen BK104.out 0;have hfz22_1:=blk_frozen BK104.out 1;have hfz22_2:=blk_frozen BK104.out 2)|((with_reducible refine gate_callee (f:=34) rfl ?_);refine goesL_ (some 9) rfl rfl Tryz.func34 (by kernel_rfl) rfl #[.slice A0_0 l0_0.length c0_0,.slice A1_0 l1_0.length c1_0] rfl eA ?_;(with_reducible refine (sr19_SamePairs.calls k _ _ l0_0 _ _ l1_0 false _ ?side1 ?side2 ?side3 ?side4 A3.out).mono ?_);(case side1 => exact CU HR0_0);(case side2 => exact HC0_0.out);(case side3 => exact CU HR1_0);(case side4 => exact HC1_0.out);rintro e w' ⟨rfl,⟨nd,rfl⟩⟩;refine ⟨_,rfl,?_⟩))
   go_ret
   exact ⟨eR,bH⟩
 subst c4
 have H1 : ((sr19_SamePairs.f k l0_1 l1_1).bind fun t106 => (if t106 = true then ((sr19_SamePairs.f k l0_2 l1_2).bind fun t107 => (some t107)) else (some false))) = some r:=by rw [if_pos rfl] at H;exact H
 clear H
 have H:=H1
 clear H1
 replace H:=Option.bind_eq_some_iff.mp H
 obtain ⟨t106,A50,H⟩:=H
 have A5:=aq A50
 clear A50
 by_cases c6 : t106 = true
 rotate_left
 · replace c6:=Bool.eq_false_iff.mpr c6
   subst c6
   have H1 : (some false) = some r:=by rw [if_neg (show ¬ (false = true) by decide)] at H;exact H
   clear H
   have H:=H1
   clear H1
   obtain rfl:=Option.some.inj H
   go_enter Tryz.func17,Tryz.ntmps17
   go_wp2_with (first|((with_reducible refine gate_dst (N:=2) rfl ?_);refine box_event rfl (N:=2) rfl (cs:=#[.slice A0_0 l0_0.length c0_0,.slice A0_1 l0_1.length c0_1,.slice A0_2 l0_2.length c0_2]) (t:=34) gS ?_;intro gb103 hg w13 hbox hb;have BK103:=aq (hbox);have GE103:=aq ((GN hg : w.heap.size ≤ gb103));replace HB:=aq (below_step bH hb);clear hb hbox hg)|((with_reducible refine gate_dst (N:=3) rfl ?_);refine box_event rfl (N:=3) rfl (cs:=#[.slice A1_0 l1_0.length c1_0,.slice A1_1 l1_1.length c1_1,.slice A1_2 l1_2.length c1_2]) (t:=34) gS ?_;intro gb104 hg w14 hbox hb;have BK104:=aq (hbox);have GE104:=aq ((GN hg : w.heap.size ≤ gb104));have NB103_104:=aq (NL hg BK103);have NB104_103:=aq (NG hg BK103);replace BK103:=KN BK103 hb;replace HB:=aq (below_step bH hb);clear hb hbox hg;have hnb15:=NB103_104.out;have hnc15:=NB104_103.out;have hcz16_0 : w14.cell? ⟨gb103,0,none⟩ = some (.slice A0_0 l0_0.length c0_0):=(blk_cell BK103.out 0).trans rfl;have hcz16_1 : w14.cell? ⟨gb103,1,none⟩ = some (.slice A0_1 l0_1.length c0_1):=(blk_cell BK103.out 1).trans rfl;have hcz16_2 : w14.cell? ⟨gb103,2,none⟩ = some (.slice A0_2 l0_2.length c0_2):=(blk_cell BK103.out 2).trans rfl;have hfz16_0:=blk_frozen BK103.out 0;have hfz16_1:=blk_frozen BK103.out 1;have hfz16_2:=blk_frozen BK103.out 2;have hcz17_0 : w14.cell? ⟨gb104,0,none⟩ = some (.slice A1_0 l1_0.length c1_0):=(blk_cell BK104.out 0).trans rfl;have hcz17_1 : w14.cell? ⟨gb104,1,none⟩ = some (.slice A1_1 l1_1.length c1_1):=(blk_cell BK104.out 1).trans rfl;have hcz17_2 : w14.cell? ⟨gb104,2,none⟩ = some (.slice A1_2 l1_2.length c1_2):=(blk_cell BK104.out 2).trans rfl;have hfz17_0:=blk_frozen BK104.out 0;have hfz17_1:=blk_frozen BK104.out 1;have hfz17_2:=blk_frozen BK104.out 2)|((with_reducible refine gate_callee (f:=34) rfl ?_);refine goesL_ (some 9) rfl rfl Tryz.func34 (by kernel_rfl) rfl #[.slice A0_0 l0_0.length c0_0,.slice A1_0 l1_0.length c1_0] rfl eA ?_;(with_reducible refine (sr19_SamePairs.calls k _ _ l0_0 _ _ l1_0 true _ ?side1 ?side2 ?side3 ?side4 A3.out).mono ?_);(case side1 => exact CU HR0_0);(case side2 => exact HC0_0.out);(case side3 => exact CU HR1_0);(case side4 => exact HC1_0.out);rintro e w' ⟨rfl,⟨nd,rfl⟩⟩;refine ⟨_,rfl,?_⟩)|(go_at_call 34;(with_reducible refine (sr19_SamePairs.calls k _ _ l0_1 _ _ l1_1 false _ ?side1 ?side2 ?side3 ?side4 A5.out).mono ?_);(case side1 => repeat (first|exact (Kd.C_below HR0_1.out bH)|(with_reducible refine Kd.C_alloc ?_ _)|(with_reducible refine Kd.C_drewN ?_ _)|(with_reducible refine Kd.C_drew ?_)));(case side2 => exact HC0_1.out);(case side3 => repeat (first|exact (Kd.C_below HR1_1.out bH)|(with_reducible refine Kd.C_alloc ?_ _)|(with_reducible refine Kd.C_drewN ?_ _)|(with_reducible refine Kd.C_drew ?_)));(case side4 => exact HC1_1.out);rintro e w' ⟨rfl,⟨nd,rfl⟩⟩))
   go_ret
   exact ⟨eR,bH⟩
 subst c6
 have H1 : ((sr19_SamePairs.f k l0_2 l1_2).bind fun t107 => (some t107)) = some r:=by rw [if_pos rfl] at H;exact H
 clear H
 have H:=H1
 clear H1
 replace H:=Option.bind_eq_some_iff.mp H
 obtain ⟨t107,A70,H⟩:=H
 have A7:=aq A70
 clear A70
 obtain rfl:=Option.some.inj H
 go_enter Tryz.func17,Tryz.ntmps17
 go_wp2_with (first|((with_reducible refine gate_dst (N:=2) rfl ?_);refine box_event rfl (N:=2) rfl (cs:=#[.slice A0_0 l0_0.length c0_0,.slice A0_1 l0_1.length c0_1,.slice A0_2 l0_2.length c0_2]) (t:=34) gS ?_;intro gb103 hg w8 hbox hb;have BK103:=aq (hbox);have GE103:=aq ((GN hg : w.heap.size ≤ gb103));replace HB:=aq (below_step bH hb);clear hb hbox hg)|((with_reducible refine gate_dst (N:=3) rfl ?_);refine box_event rfl (N:=3) rfl (cs:=#[.slice A1_0 l1_0.length c1_0,.slice A1_1 l1_1.length c1_1,.slice A1_2 l1_2.length c1_2]) (t:=34) gS ?_;intro gb104 hg w9 hbox hb;have BK104:=aq (hbox);have GE104:=aq ((GN hg : w.heap.size ≤ gb104));have NB103_104:=aq (NL hg BK103);have NB104_103:=aq (NG hg BK103);replace BK103:=KN BK103 hb;replace HB:=aq (below_step bH hb);clear hb hbox hg;have hnb10:=NB103_104.out;have hnc10:=NB104_103.out;have hcz11_0 : w9.cell? ⟨gb103,0,none⟩ = some (.slice A0_0 l0_0.length c0_0):=(blk_cell BK103.out 0).trans rfl;have hcz11_1 : w9.cell? ⟨gb103,1,none⟩ = some (.slice A0_1 l0_1.length c0_1):=(blk_cell BK103.out 1).trans rfl;have hcz11_2 : w9.cell? ⟨gb103,2,none⟩ = some (.slice A0_2 l0_2.length c0_2):=(blk_cell BK103.out 2).trans rfl;have hfz11_0:=blk_frozen BK103.out 0;have hfz11_1:=blk_frozen BK103.out 1;have hfz11_2:=blk_frozen BK103.out 2;have hcz12_0 : w9.cell? ⟨gb104,0,none⟩ = some (.slice A1_0 l1_0.length c1_0):=(blk_cell BK104.out 0).trans rfl;have hcz12_1 : w9.cell? ⟨gb104,1,none⟩ = some (.slice A1_1 l1_1.length c1_1):=(blk_cell BK104.out 1).trans rfl;have hcz12_2 : w9.cell? ⟨gb104,2,none⟩ = some (.slice A1_2 l1_2.length c1_2):=(blk_cell BK104.out 2).trans rfl;have hfz12_0:=blk_frozen BK104.out 0;have hfz12_1:=blk_frozen BK104.out 1;have hfz12_2:=blk_frozen BK104.out 2)|((with_reducible refine gate_callee (f:=34) rfl ?_);refine goesL_ (some 9) rfl rfl Tryz.func34 (by kernel_rfl) rfl #[.slice A0_0 l0_0.length c0_0,.slice A1_0 l1_0.length c1_0] rfl eA ?_;(with_reducible refine (sr19_SamePairs.calls k _ _ l0_0 _ _ l1_0 true _ ?side1 ?side2 ?side3 ?side4 A3.out).mono ?_);(case side1 => exact CU HR0_0);(case side2 => exact HC0_0.out);(case side3 => exact CU HR1_0);(case side4 => exact HC1_0.out);rintro e w' ⟨rfl,⟨nd,rfl⟩⟩;refine ⟨_,rfl,?_⟩)|(go_at_call 34;(with_reducible refine (sr19_SamePairs.calls k _ _ l0_1 _ _ l1_1 true _ ?side1 ?side2 ?side3 ?side4 A5.out).mono ?_);(case side1 => repeat (first|exact (Kd.C_below HR0_1.out bH)|(with_reducible refine Kd.C_alloc ?_ _)|(with_reducible refine Kd.C_drewN ?_ _)|(with_reducible refine Kd.C_drew ?_)));(case side2 => exact HC0_1.out);(case side3 => repeat (first|exact (Kd.C_below HR1_1.out bH)|(with_reducible refine Kd.C_alloc ?_ _)|(with_reducible refine Kd.C_drewN ?_ _)|(with_reducible refine Kd.C_drew ?_)));(case side4 => exact HC1_1.out);rintro e w' ⟨rfl,⟨nd,rfl⟩⟩)|(go_at_call 34;(with_reducible refine (sr19_SamePairs.calls k _ _ l0_2 _ _ l1_2 t107 _ ?side1 ?side2 ?side3 ?side4 A7.out).mono ?_);(case side1 => repeat (first|exact (Kd.C_below HR0_2.out bH)|(with_reducible refine Kd.C_alloc ?_ _)|(with_reducible refine Kd.C_drewN ?_ _)|(with_reducible refine Kd.C_drew ?_)));(case side2 => exact HC0_2.out);(case side3 => repeat (first|exact (Kd.C_below HR1_2.out bH)|(with_reducible refine Kd.C_alloc ?_ _)|(with_reducible refine Kd.C_drewN ?_ _)|(with_reducible refine Kd.C_drew ?_)));(case side4 => exact HC1_2.out);rintro e w' ⟨rfl,⟨nd,rfl⟩⟩))
 go_ret
 exact ⟨eR,bH⟩
end Go.Proofs.YtaokkkolbifdpaaGreatDoor.Q33
end

section
namespace Go.Proofs.YtaokkkolbifdpaaGreatDoor.Q33
open Go.RowKit Go.Proofs.YtaokkkolbifdpaaGreatDoorW
open PrintWords PrintLast PrintMore
attribute [local go_sem] max2_int min2_int max_two min_two max_three min_three max_four min_four
end Go.Proofs.YtaokkkolbifdpaaGreatDoor.Q33
end

section
namespace Go.Proofs.YtaokkkolbifdpaaGreatDoor.Hand
open Go.RowKit Go.Proofs.YtaokkkolbifdpaaGreatDoorW
open PrintWords PrintLast PrintMore
def fixC : S23 := ⟨⟨#[65, 108, 112, 104, 97]⟩, ⟨#[36]⟩⟩
def fixM : S23 := ⟨⟨#[109, 40, 73, 41, 86]⟩, ⟨#[36, 48]⟩⟩
def fixT : List UInt8 := [99, 108, 97, 115, 115, 32, 65, 108, 112, 104, 97, 32, 36, 10, 109, 101, 116, 104, 111, 100, 32, 109, 32, 40, 73, 41, 86, 32, 36, 48, 10]
theorem rising_one (x : List UInt8) : risingB [x] = [x] := by
 unfold risingB
 rw [List.mergeSort_singleton]
 unfold Lib.compact Lib.compactUpTo
 rfl
theorem unlike_one (x : List UInt8) : unlikeB [x] = true := by unfold unlikeB; rw [rising_one]; rfl
theorem unlike_nil : unlikeB [] = true := by unfold unlikeB; rw [rising_nil]; rfl
theorem rises_short (l : List S23) (h : l.length ≤ 1) : risesP l = true := decide_eq_true fun i hi => absurd hi (by omega)
theorem fix_right : rightS [fixC] [] [fixM] = true := by
 unfold rightS
 rw [rises_short _ (by decide),rises_short _ (by decide),rises_short _ (by decide)]
 simp only [List.map_cons,List.map_nil]
 rw [unlike_one,unlike_nil,unlike_one]
 decide +kernel
theorem fix_print : printS [fixC] [] [fixM] = (fixT, 0) := by
 unfold printS
 rw [fix_right,if_pos rfl]
 have h : textL (linesAll [fixC] [] [fixM]) = fixT:=by decide +kernel
 rw [h]
 rfl
theorem fix_lines : linesL fixT = ([[99, 108, 97, 115, 115, 32, 65, 108, 112, 104, 97, 32, 36], [109, 101, 116, 104, 111, 100, 32, 109, 32, 40, 73, 41, 86, 32, 36, 48]], 0, 0) := by decide +kernel
theorem fix_reads : readsF [[99, 108, 97, 115, 115, 32, 65, 108, 112, 104, 97, 32, 36], [109, 101, 116, 104, 111, 100, 32, 109, 32, 40, 73, 41, 86, 32, 36, 48]] 0 ([], [], []) = (([fixC], [], [fixM]), 0) := by rfl
theorem fix_parse : parseS fixT = (([fixC], [], [fixM]), (0, 0)) := by
 unfold parseS
 rw [fix_lines,if_neg (fun h => h rfl),fix_reads,if_neg (fun h => h rfl)]
 show (if (printS [fixC] [] [fixM]).2 ≠ 0 ∨ (printS [fixC] [] [fixM]).1 ≠ fixT then _ else _) = _
 rw [fix_print,if_neg (fun h => h.elim (fun h => h rfl) (fun h => h rfl))]
theorem bad_parse : parseS [99, 108, 97, 115, 115, 32, 65, 10] = (([], [], []), (1, 1)) := by
 unfold parseS
 have h : linesL [99,108,97,115,115,32,65,10] = ([[99,108,97,115,115,32,65]],0,0):=by decide +kernel
 have h2 : readsF [[99,108,97,115,115,32,65]] 0 ([],[],[]) = (([],[],[]),1):=by rfl
 rw [h,if_neg (fun h => h rfl),h2,if_pos (show ¬ ((1 : Int) = 0) by decide)]
theorem fix_read : readS [109, 101, 116, 104, 111, 100, 32, 109, 32, 40, 73, 41, 86, 32, 36, 48] = (wMethod, ([109, 40, 73, 41, 86], [36, 48]), true) := by rfl
theorem fix_line : lineS wField ([102], [103]) = [102, 105, 101, 108, 100, 32, 102, 32, 103] := by decide +kernel
theorem no_line (x : List UInt8 × List UInt8) : lineS [120] x = [] := by
 unfold lineS
 rw [if_neg (by decide),if_neg (by decide)]
theorem fix_same : Q33.sr29_Same.f 2 [fixC] [] [fixM] [fixC] [] [fixM] = some true := by decide +kernel
theorem one_pair {w : World} {g : Nat} {x : S23} (h : w.heap[g]? = some (Obj.cells #[.string x.f0, .string x.f1] 23 (0, 0))) : Kd.C k23 w (some ⟨g, 0, none⟩) [x].length [x] := by
 refine ⟨rfl,by simp,fun _ => ⟨⟨g,0,none⟩,rfl,fun j p hj => ?_⟩⟩
 have hj0 : j = 0:=by
  have:=(List.getElem?_eq_some_iff.1 hj).1
  simp at this
  omega
 subst hj0
 obtain rfl : x = p:=by simpa using hj
 refine ⟨[.string x.f0,.string x.f1],rfl,k23_mk w x,fun i u hu => ?_⟩
 have hb:=blk_cell h i
 have e : (#[.string x.f0,.string x.f1] : Array Value)[i]? = some u:=by rw [List.getElem?_toArray];exact hu
 rw [e] at hb
 have ha : (⟨g,0,none⟩ : Addr).add (0 * 2 + i) = ⟨g,i,none⟩:=by rw [Nat.zero_mul,Nat.zero_add];exact add_plain g i
 exact ha ▸ hb
theorem okM_fix : okM ([fixC], [], [fixM]) 1048576 := ⟨by decide, fun x hx => by rw [List.mem_singleton.1 hx]; exact ⟨by decide, by decide⟩, fun x hx => by simp at hx, fun x hx => by rw [List.mem_singleton.1 hx]; exact ⟨by decide, by decide⟩⟩
structure Q6 (W : World) (gC gX gM gN gF gE gP : Nat) (A0 A1 A2 : Option Addr) (c0 c1 c2 : Nat) : Prop where
 m : W.heap[gM]? = some (Obj.cells #[.slice (some ⟨gC,0,none⟩) 1 1,.slice none 0 0,.slice (some ⟨gX,0,none⟩) 1 1] 34 (0,0))
 n : W.heap[gN]? = some (Obj.cells #[.slice A0 1 c0,.slice A1 0 c1,.slice A2 1 c2] 34 (0,0))
 f : W.heap[gF]? = some (Obj.cells #[.int .i64 0,.int .i64 0] 40 (0,0))
 e : W.heap[gE]? = some (Obj.cells #[.int .i64 1,.int .i64 1] 40 (0,0))
 p : W.heap[gP]? = some (Obj.cells #[.string ⟨#[109,40,73,41,86]⟩,.string ⟨#[36,48]⟩] 23 (0,0))
 x : W.heap[gX]? = some (Obj.cells #[.string ⟨#[109,40,73,41,86]⟩,.string ⟨#[36,48]⟩] 23 (0,0))
 c : W.heap[gC]? = some (Obj.cells #[.string fixC.f0,.string fixC.f1] 23 (0,0))
 r0 : Kd.C k23 W A0 [fixC].length [fixC]
 r1 : Kd.C k23 W A1 ([] : List S23).length []
 r2 : Kd.C k23 W A2 [fixM].length [fixM]
 mx : MaxL W
theorem Q6.below {W W' : World} {gC gX gM gN gF gE gP : Nat} {A0 A1 A2 : Option Addr} {c0 c1 c2 : Nat} (h : Q6 W gC gX gM gN gF gE gP A0 A1 A2 c0 c1 c2) (hb : Below W.heap.size W W') : Q6 W' gC gX gM gN gF gE gP A0 A1 A2 c0 c1 c2 :=
 ⟨blk_below h.m hb,blk_below h.n hb,blk_below h.f hb,blk_below h.e hb,blk_below h.p hb,blk_below h.x hb,blk_below h.c hb,Kd.C_below h.r0 hb,Kd.C_below h.r1 hb,Kd.C_below h.r2 hb,h.mx.below hb⟩
theorem Q6.S {W : World} {gC gX gM gN gF gE gP : Nat} {A0 A1 A2 : Option Addr} {c0 c1 c2 : Nat} (h : Q6 W gC gX gM gN gF gE gP A0 A1 A2 c0 c1 c2) :
  W.cell? ⟨gM,0,none⟩ = some (.slice (some ⟨gC,0,none⟩) 1 1) ∧ W.cell? ⟨gM,1,none⟩ = some (.slice none 0 0) ∧ W.cell? ⟨gM,2,none⟩ = some (.slice (some ⟨gX,0,none⟩) 1 1) ∧
  W.cell? ⟨gN,0,none⟩ = some (.slice A0 1 c0) ∧ W.cell? ⟨gN,1,none⟩ = some (.slice A1 0 c1) ∧ W.cell? ⟨gN,2,none⟩ = some (.slice A2 1 c2) ∧
  W.cell? ⟨gF,0,none⟩ = some (.int .i64 0) ∧ W.cell? ⟨gF,1,none⟩ = some (.int .i64 0) ∧ W.cell? ⟨gE,0,none⟩ = some (.int .i64 1) ∧ W.cell? ⟨gE,1,none⟩ = some (.int .i64 1) ∧
  W.cell? ⟨gP,0,none⟩ = some (.string ⟨#[109,40,73,41,86]⟩) ∧ W.cell? ⟨gP,1,none⟩ = some (.string ⟨#[36,48]⟩) ∧ W.cell? ⟨gX,0,none⟩ = some (.string ⟨#[109,40,73,41,86]⟩) ∧ W.cell? ⟨gX,1,none⟩ = some (.string ⟨#[36,48]⟩) :=
 ⟨blk_cell h.m 0,blk_cell h.m 1,blk_cell h.m 2,blk_cell h.n 0,blk_cell h.n 1,blk_cell h.n 2,blk_cell h.f 0,blk_cell h.f 1,blk_cell h.e 0,blk_cell h.e 1,blk_cell h.p 0,blk_cell h.p 1,blk_cell h.x 0,blk_cell h.x 1⟩
theorem same_call {W : World} {gC gX gM gN gF gE gP : Nat} {A0 A1 A2 : Option Addr} {c0 c1 c2 : Nat} (h : Q6 W gC gX gM gN gF gE gP A0 A1 A2 c0 c1 c2) (h0 : 1 ≤ c0) (h2 : 1 ≤ c2) :
  Calls Tryz.prog 17 #[.agg #[.slice (some ⟨gC,0,none⟩) 1 1,.slice none 0 0,.slice (some ⟨gX,0,none⟩) 1 1],.agg #[.slice A0 1 c0,.slice A1 0 c1,.slice A2 1 c2]] W fun e w' => e = .returned (.bool true) ∧ Below W.heap.size W w' :=
 Q33.sr29_Same.calls 2 (some ⟨gC,0,none⟩) 1 [fixC] none 0 [] (some ⟨gX,0,none⟩) 1 [fixM] A0 c0 [fixC] A1 c1 [] A2 c2 [fixM] true W (one_pair h.c) (Nat.le_refl _) (Kd.C_nil _ _) (Nat.le_refl _) (one_pair (x:=fixM) h.x) (Nat.le_refl _) h.r0 h0 h.r1 (Nat.zero_le _) h.r2 h2 fix_same
theorem line_call1 (W : World) (hM : MaxL W) : Calls Tryz.prog 9 #[.string ⟨#[102, 105, 101, 108, 100]⟩, .agg #[.string ⟨#[102]⟩, .string ⟨#[103]⟩]] W fun e w' => e = .returned (.string ⟨#[102, 105, 101, 108, 100, 32, 102, 32, 103]⟩) ∧ Below W.heap.size W w' := by
 have h:=Q32.legend_Line.calls 1 ⟨#[102,105,101,108,100]⟩ ⟨#[102]⟩ ⟨#[103]⟩ _ W hM (legLine_eq _ _ _ (by decide) (by decide))
 rw [show lineS (bl ⟨#[102,105,101,108,100]⟩) (bl ⟨#[102]⟩,bl ⟨#[103]⟩) = [102,105,101,108,100,32,102,32,103] from fix_line] at h
 exact h
theorem line_call2 (W : World) (hM : MaxL W) : Calls Tryz.prog 9 #[.string ⟨#[120]⟩, .agg #[.string ⟨#[109, 40, 73, 41, 86]⟩, .string ⟨#[36, 48]⟩]] W fun e w' => e = .returned (.string ⟨#[]⟩) ∧ Below W.heap.size W w' := by
 have h:=Q32.legend_Line.calls 1 ⟨#[120]⟩ ⟨#[109,40,73,41,86]⟩ ⟨#[36,48]⟩ _ W hM (legLine_eq _ _ _ (by decide) (by decide))
 rw [show lineS (bl ⟨#[120]⟩) (bl ⟨#[109,40,73,41,86]⟩,bl ⟨#[36,48]⟩) = [] from no_line _] at h
 exact h
theorem legend_sure (w : World) (hM : MaxL w) : Calls Tryz.prog 6 #[] w fun e w' => e = .returned (.bool true) ∧ Below w.heap.size w w' := by
 have hb1:=below_alloc (below_alloc (below_alloc (Below.refl w.heap.size w) (Obj.cells #[.string fixC.f0,.string fixC.f1] 23)) (Obj.cells #[.string fixM.f0,.string fixM.f1] 23)) (Obj.cells #[.slice (some ⟨w.heap.size,0,none⟩) 1 1,.slice none 0 0,.slice (some ⟨w.heap.size + 1,0,none⟩) 1 1] 34)
 have g1:=blk_alloc (blk_alloc (World.alloc_heap_new w (Obj.cells #[.string fixC.f0,.string fixC.f1] 23)) (Obj.cells #[.string fixM.f0,.string fixM.f1] 23)) (Obj.cells #[.slice (some ⟨w.heap.size,0,none⟩) 1 1,.slice none 0 0,.slice (some ⟨w.heap.size + 1,0,none⟩) 1 1] 34)
 have g2:=World.alloc_heap_new (w.alloc (Obj.cells #[.string fixC.f0,.string fixC.f1] 23)) (Obj.cells #[.string fixM.f0,.string fixM.f1] 23)
 rw [World.size_alloc] at g2
 have g2:=blk_alloc g2 (Obj.cells #[.slice (some ⟨w.heap.size,0,none⟩) 1 1,.slice none 0 0,.slice (some ⟨w.heap.size + 1,0,none⟩) 1 1] 34)
 have g3:=World.alloc_heap_new ((w.alloc (Obj.cells #[.string fixC.f0,.string fixC.f1] 23)).alloc (Obj.cells #[.string fixM.f0,.string fixM.f1] 23)) (Obj.cells #[.slice (some ⟨w.heap.size,0,none⟩) 1 1,.slice none 0 0,.slice (some ⟨w.heap.size + 1,0,none⟩) 1 1] 34)
 rw [World.size_alloc,World.size_alloc] at g3
 have HPr:=aq (legend_print' (some ⟨w.heap.size,0,none⟩) 1 [fixC] none 0 [] (some ⟨w.heap.size + 1,0,none⟩) 1 [fixM] _ (one_pair g1) (Nat.le_refl _) (Kd.C_nil _ _) (Nat.le_refl _) (one_pair g2) (Nat.le_refl _) okM_fix (hM.below hb1))
 rw [fix_print] at HPr
 obtain ⟨t,ht⟩ : ∃ t,t = lb fixT:=⟨_,rfl⟩
 have htl : t.toList = fixT:=by rw [ht,toList_bl,bl_lb]
 have hbt : bl t = fixT:=by rw [ht,bl_lb]
 have HPa:=aq (fun W (h : MaxL W) => legend_parse t (by rw [size_of_bl hbt];decide) W h)
 rw [hbt,fix_parse] at HPa
 have HPb:=aq (fun W (h : MaxL W) => legend_parse ⟨#[99,108,97,115,115,32,65,10]⟩ (by decide) W h)
 rw [show bl (⟨#[99,108,97,115,115,32,65,10]⟩ : ByteArray) = [99,108,97,115,115,32,65,10] from rfl,bad_parse] at HPb
 have HRd : Aside0 (∀ W,MaxL W → Calls Tryz.prog 7 #[.string ⟨#[109,101,116,104,111,100,32,109,32,40,73,41,86,32,36,48]⟩] W fun e w' => e = .returned (.tuple #[.string ⟨#[109,101,116,104,111,100]⟩,.agg #[.string ⟨#[109,40,73,41,86]⟩,.string ⟨#[36,48]⟩],.bool true]) ∧ Below W.heap.size W w'):=⟨fun W h => by
  have h1:=read_call ⟨#[109,101,116,104,111,100,32,109,32,40,73,41,86,32,36,48]⟩ (by decide) W h
  rw [show bl (⟨#[109,101,116,104,111,100,32,109,32,40,73,41,86,32,36,48]⟩ : ByteArray) = [109,101,116,104,111,100,32,109,32,40,73,41,86,32,36,48] from rfl,fix_read] at h1
  exact h1⟩
 rw [← ht] at HPr
 have HG1:=aq g1
 have HG2:=aq g2
 have HG3:=aq g3
 have HB1:=aq hb1
 have HM1:=aq (hM.below hb1)
 have t1 : (t.toList == ([99,108,97,115,115,32,65,108,112,104,97,32,36,10,109,101,116,104,111,100,32,109,32,40,73,41,86,32,36,48,10] : List UInt8)) = true:=by rw [htl];rfl
 clear ht htl hbt hM g1 g2 g3 hb1
 go_enter Tryz.func6,Tryz.ntmps6
 go_wp2_with fail
 refine HPr.out.mono ?_
 rintro e w2 ⟨rfl,hb⟩
 have HB2:=aq (below_step HB1.out hb)
 have HG12:=aq (blk_below HG1.out hb)
 have HG22:=aq (blk_below HG2.out hb)
 have HG32:=aq (blk_below HG3.out hb)
 have HM2:=aq (HM1.out.below hb)
 clear hb
 go_wp2_with fail
 refine (HPa.out _ HM2.out).mono ?_
 rintro e w3 ⟨v0,v1,v2,rfl,hR0,hR1,hR2,hb⟩
 obtain ⟨A0,c0,rfl,hc0,hC0⟩:=Kd.R_reads hR0
 obtain ⟨A1,c1,rfl,hc1,hC1⟩:=Kd.R_reads hR1
 obtain ⟨A2,c2,rfl,hc2,hC2⟩:=Kd.R_reads hR2
 have HB3:=aq (below_step HB2.out hb)
 have HG13:=aq (blk_below HG12.out hb)
 have HG23:=aq (blk_below HG22.out hb)
 have HG33:=aq (blk_below HG32.out hb)
 have HM3:=aq (HM2.out.below hb)
 have HCC:=aq (And.intro hC0 (And.intro hC1 hC2))
 have HcC:=aq (And.intro hc0 (And.intro hc1 hc2))
 clear hb hR0 hR1 hR2 hC0 hC1 hC2 hc0 hc1 hc2
 go_wp2_with fail
 have HN3:=aq (blk_alloc (World.alloc_heap_new w3 (Obj.cells #[.slice A0 1 c0,.slice A1 0 c1,.slice A2 1 c2] 34)) (Obj.cells #[.int .i64 0,.int .i64 0] 40))
 have hf3:=World.alloc_heap_new (w3.alloc (Obj.cells #[.slice A0 1 c0,.slice A1 0 c1,.slice A2 1 c2] 34)) (Obj.cells #[.int .i64 0,.int .i64 0] 40)
 rw [World.size_alloc] at hf3
 have HF3:=aq hf3
 clear hf3
 have HW3:=aq (below_alloc (below_alloc (Below.refl w3.heap.size w3) (Obj.cells #[.slice A0 1 c0,.slice A1 0 c1,.slice A2 1 c2] 34)) (Obj.cells #[.int .i64 0,.int .i64 0] 40))
 refine (HPb.out _ (HM3.out.below HW3.out)).mono ?_
 rintro e w4 ⟨u0,u1,u2,rfl,hR0,hR1,hR2,hb⟩
 obtain ⟨B0,d0,rfl,_,_⟩:=Kd.R_reads hR0
 obtain ⟨B1,d1,rfl,_,_⟩:=Kd.R_reads hR1
 obtain ⟨B2,d2,rfl,_,_⟩:=Kd.R_reads hR2
 have hb4:=below_step HW3.out hb
 have HB4:=aq (below_step HB3.out hb4)
 have HN4:=aq (blk_below HN3.out hb)
 have HF4:=aq (blk_below HF3.out hb)
 have HG14:=aq (blk_below HG13.out hb4)
 have HG24:=aq (blk_below HG23.out hb4)
 have HG34:=aq (blk_below HG33.out hb4)
 have HM4:=aq (HM3.out.below hb4)
 have HC4:=aq hb4
 clear hb hb4 hR0 hR1 hR2 HN3 HF3 HG13 HG23 HG33
 go_wp2_with fail
 have HW4:=aq (below_alloc (below_alloc (Below.refl w4.heap.size w4) (Obj.cells #[.slice B0 0 d0,.slice B1 0 d1,.slice B2 0 d2] 34)) (Obj.cells #[.int .i64 1,.int .i64 1] 40))
 have hf4:=World.alloc_heap_new (w4.alloc (Obj.cells #[.slice B0 0 d0,.slice B1 0 d1,.slice B2 0 d2] 34)) (Obj.cells #[.int .i64 1,.int .i64 1] 40)
 rw [World.size_alloc] at hf4
 refine (HRd.out _ (HM4.out.below HW4.out)).mono ?_
 rintro e w5 ⟨rfl,hb⟩
 have hb5:=below_step HW4.out hb
 have HB5:=aq (below_step HB4.out hb5)
 have HN5:=aq (blk_below HN4.out hb5)
 have HF5:=aq (blk_below HF4.out hb5)
 have HE5:=aq (blk_below hf4 hb)
 have HG15:=aq (blk_below HG14.out hb5)
 have HG25:=aq (blk_below HG24.out hb5)
 have HG35:=aq (blk_below HG34.out hb5)
 have HM5:=aq (HM4.out.below hb5)
 have HC5:=aq (below_step HC4.out hb5)
 clear hb hb5 hf4
 go_wp2_with fail
 have hz:=below_alloc (Below.refl w5.heap.size w5) (Obj.cells #[.string ⟨#[109,40,73,41,86]⟩,.string ⟨#[36,48]⟩] 23)
 have hq6 : Q6 (w5.alloc (Obj.cells #[.string ⟨#[109,40,73,41,86]⟩,.string ⟨#[36,48]⟩] 23)) w.heap.size (w.heap.size + 1) (w.heap.size + 1 + 1) w3.heap.size (w3.heap.size + 1) (w4.heap.size + 1) w5.heap.size A0 A1 A2 c0 c1 c2 :=
  ⟨blk_alloc HG35.out _,blk_alloc HN5.out _,blk_alloc HF5.out _,blk_alloc HE5.out _,World.alloc_heap_new w5 _,blk_alloc HG25.out _,blk_alloc HG15.out _,Kd.C_below HCC.out.1 (below_step HC5.out hz),Kd.C_below HCC.out.2.1 (below_step HC5.out hz),Kd.C_below HCC.out.2.2 (below_step HC5.out hz),HM5.out.below hz⟩
 have HQ6:=aq hq6
 have HB6:=aq (below_step HB5.out hz)
 have HSame:=aq (fun (W : World) (h : Q6 W w.heap.size (w.heap.size + 1) (w.heap.size + 1 + 1) w3.heap.size (w3.heap.size + 1) (w4.heap.size + 1) w5.heap.size A0 A1 A2 c0 c1 c2) => same_call h (show 1 ≤ c0 from HcC.out.1) (show 1 ≤ c2 from HcC.out.2.2))
 have e40 : ∀ W,(binOp .eql 40 (.agg #[.int .i64 0,.int .i64 0]) (.agg #[.int .i64 0,.int .i64 0])).run Tryz.prog W = .ok (.bool true) W:=fun W => by kernel_rfl
 have e41 : ∀ W,(binOp .eql 40 (.agg #[.int .i64 1,.int .i64 1]) (.agg #[.int .i64 1,.int .i64 1])).run Tryz.prog W = .ok (.bool true) W:=fun W => by kernel_rfl
 have e23 : ∀ W,(binOp .eql 23 (.agg #[.string ⟨#[109,40,73,41,86]⟩,.string ⟨#[36,48]⟩]) (.agg #[.string ⟨#[109,40,73,41,86]⟩,.string ⟨#[36,48]⟩])).run Tryz.prog W = .ok (.bool true) W:=fun W => by kernel_rfl
 clear hz hq6 HN5 HF5 HE5 HG15 HG25 HG35
 obtain ⟨w6,hw6⟩ : ∃ W,w5.alloc (Obj.cells #[.string ⟨#[109,40,73,41,86]⟩,.string ⟨#[36,48]⟩] 23) = W:=⟨_,rfl⟩
 rw [hw6] at HQ6 HB6 ⊢
 clear hw6
 go_region_held3 (fun w' => w'.cell? ⟨w.heap.size + 1 + 1, 0, none⟩ = some (.slice (some ⟨w.heap.size, 0, none⟩) 1 1) ∧ w'.cell? ⟨w.heap.size + 1 + 1, 1, none⟩ = some (.slice none 0 0) ∧ w'.cell? ⟨w.heap.size + 1 + 1, 2, none⟩ = some (.slice (some ⟨w.heap.size + 1, 0, none⟩) 1 1) ∧ w'.cell? ⟨w3.heap.size, 0, none⟩ = some (.slice A0 1 c0) ∧ w'.cell? ⟨w3.heap.size, 1, none⟩ = some (.slice A1 0 c1) ∧ w'.cell? ⟨w3.heap.size, 2, none⟩ = some (.slice A2 1 c2) ∧ w'.cell? ⟨w3.heap.size + 1, 0, none⟩ = some (.int .i64 0) ∧ w'.cell? ⟨w3.heap.size + 1, 1, none⟩ = some (.int .i64 0) ∧ w'.cell? ⟨w4.heap.size + 1, 0, none⟩ = some (.int .i64 1) ∧ w'.cell? ⟨w4.heap.size + 1, 1, none⟩ = some (.int .i64 1) ∧ w'.cell? ⟨w5.heap.size, 0, none⟩ = some (.string ⟨#[109, 40, 73, 41, 86]⟩) ∧ w'.cell? ⟨w5.heap.size, 1, none⟩ = some (.string ⟨#[36, 48]⟩) ∧ w'.cell? ⟨w.heap.size + 1, 0, none⟩ = some (.string ⟨#[109, 40, 73, 41, 86]⟩) ∧ w'.cell? ⟨w.heap.size + 1, 1, none⟩ = some (.string ⟨#[36, 48]⟩)) (first | with_reducible exact (HQ6.out.below (below_drew1 (Below.refl _ _))).S | with_reducible exact HQ7.out.S | with_reducible exact HQ8.out.S | with_reducible exact HQ9.out.S | fail "keep") ((first
  | (go_at_call 17;(with_reducible refine (HSame.out _ (HQ6.out.below (below_drew1 (Below.refl _ _)))).mono ?_);rintro e w7 ⟨rfl,hb⟩;have hb_:=below_step (below_drew1 (Below.refl w6.heap.size w6)) hb;have HQ7:=aq (HQ6.out.below hb_);have HB7:=aq (below_step HB6.out hb_);clear hb hb_)
  | (go_at_call 9;(with_reducible refine (line_call1 _ HQ7.out.mx).mono ?_);rintro e w8 ⟨rfl,hb⟩;have HQ8:=aq (HQ7.out.below hb);have HB8:=aq (below_step HB7.out hb);clear hb)
  | (go_at_call 9;(with_reducible refine (line_call2 _ HQ8.out.mx).mono ?_);rintro e w9 ⟨rfl,hb⟩;have HQ9:=aq (HQ8.out.below hb);have HB9:=aq (below_step HB8.out hb);clear hb)))
 go_wp2_with fail
 exact bodyPost_ret (results_tmp rfl _ _ _) rfl ⟨rfl,HB9.out⟩
def legend_Line.f (what old new : ByteArray) : Option ByteArray := if old.size ≤ 1048576 ∧ new.size ≤ 1048576 then some (lb (lineS (bl what) (bl old, bl new))) else none
theorem legend_Line.calls (a0 : ByteArray) (a1_0 : ByteArray) (a1_1 : ByteArray) (r : ByteArray) (w : World) (hGMaxL : MaxL w) (h : legend_Line.f a0 a1_0 a1_1 = some r) :
  Calls Tryz.prog 9 #[.string a0,.agg #[.string a1_0,.string a1_1]] w fun e w' => e = .returned (.string r) ∧ Below w.heap.size w w':=by
 unfold legend_Line.f at h
 split at h
 ·
  rename_i hs
  exact Q32.legend_Line.calls 1 a0 a1_0 a1_1 r w hGMaxL ((legLine_eq a0 a1_0 a1_1 hs.1 hs.2).trans h)
 ·
  cases h
def legend_Read.f (s : ByteArray) : Option (ByteArray × ByteArray × ByteArray × Bool) := if s.size ≤ 1048576 then some (legOut (readS (bl s))) else none
theorem legend_Read.calls (a0 : ByteArray) (r1 : ByteArray) (r2 : ByteArray) (r3 : ByteArray) (r4 : Bool) (w : World) (hGMaxL : MaxL w) (h : legend_Read.f a0 = some (r1, r2, r3, r4)) :
  Calls Tryz.prog 7 #[.string a0] w fun e w' => e = .returned (.tuple #[.string r1,.agg #[.string r2,.string r3],.bool r4]) ∧ Below w.heap.size w w':=by
 unfold legend_Read.f at h
 split at h
 ·
  rename_i hs
  exact Q32.legend_Read.calls 1 a0 r1 r2 r3 r4 w hGMaxL ((legRead_eq a0 hs).trans h)
 ·
  cases h
def sl30_sure.f : Option Bool := some true
theorem sl30_sure.calls (r : Bool) (w : World) (hGMaxL : MaxL w) (h : sl30_sure.f = some r) :
  Calls Tryz.prog 6 #[] w fun e w' => e = .returned (.bool r) ∧ Below w.heap.size w w':=by
 cases h
 exact legend_sure w hGMaxL
theorem keeps_all_nodup (zs : List (List UInt8)) (hs : zs.Pairwise fun a b => a ≤ b) : (∀ j, j < zs.length → Lib.keeps zs.toArray j = true) ↔ zs.Nodup := by
 have hg : ∀ j (h : j < zs.length),zs.toArray[j]! = zs[j]:=fun j h => by simp [h]
 have hk : ∀ j (h : j < zs.length),Lib.keeps zs.toArray j = true ↔ (j = 0 ∨ zs[j] ≠ zs[j - 1]'(by omega)):=fun j h => by
  unfold Lib.keeps
  rw [decide_eq_true_eq,hg j h,hg (j - 1) (by omega)]
 rw [List.pairwise_iff_getElem] at hs
 constructor
 ·
  intro h
  rw [List.nodup_iff_pairwise_ne,List.pairwise_iff_getElem]
  intro i j hi hj hij he
  rcases (hk j hj).1 (h j hj) with h0|h0
  ·
   omega
  ·
   by_cases e : i = j - 1
   ·
    subst e;exact h0 he.symm
   ·
    have h1:=hs i (j - 1) hi (by omega) (by omega)
    have h2:=hs (j - 1) j (by omega) hj (by omega)
    rw [he] at h1
    exact h0 (List.le_antisymm h1 h2)
 ·
  intro h j hj
  rw [List.nodup_iff_pairwise_ne,List.pairwise_iff_getElem] at h
  refine (hk j hj).2 ?_
  by_cases e : j = 0
  ·
   exact .inl e
  ·
   exact .inr fun he => h (j - 1) j (by omega) hj (by omega) he.symm
theorem unlike_nodup (ls : List (List UInt8)) : unlikeB ls = decide ls.Nodup := by
 unfold unlikeB risingB
 obtain ⟨zs,hz⟩ : ∃ zs,zs = ls.mergeSort fun x y => decide (x ≤ y):=⟨_,rfl⟩
 have hp : zs.Perm ls:=by rw [hz];exact List.mergeSort_perm _ _
 have hs : zs.Pairwise fun a b => a ≤ b:=by
  have h:=List.pairwise_mergeSort (le:=fun (x y : List UInt8) => decide (x ≤ y)) (fun a b c h1 h2 => decide_eq_true (List.le_trans (of_decide_eq_true h1) (of_decide_eq_true h2))) (fun a b => by rcases List.le_total a b with h|h <;> simp [h]) ls
  rw [← hz] at h
  exact h.imp fun h => of_decide_eq_true h
 rw [← hz]
 have e : ((Lib.compact zs).length = ls.length) ↔ ls.Nodup:=by
  rw [← hp.nodup_iff,← hp.length_eq,← keeps_all_nodup zs hs]
  unfold Lib.compact Lib.compactUpTo
  rw [List.length_map]
  have h:=List.length_filter_eq_length_iff (p:=Lib.keeps zs.toArray) (l:=List.range zs.length)
  rw [List.length_range] at h
  rw [h]
  simp
 exact decide_eq_decide.2 e
end Go.Proofs.YtaokkkolbifdpaaGreatDoor.Hand
end

section
namespace Go.Proofs.YtaokkkolbifdpaaGreatDoor.Q31
open Go.RowKit Go.Proofs.YtaokkkolbifdpaaGreatDoorW
open PrintWords PrintLast PrintMore Go.Proofs.YtaokkkolbifdpaaGreatDoor.Hand
attribute [local go_sem] max2_int min2_int max_two min_two max_three min_three max_four min_four
def errW : Option Int → Value
  | none => .nilIface
  | some c => .iface 0 (.int .i64 c)
theorem errW_none : errW none = .nilIface := rfl
theorem errW_some (c : Int) : errW (some c) = .iface 0 (.int .i64 c) := rfl
def sr30_cut.l0 : Nat → ByteArray → Int → Option (ByteArray × ByteArray)
  | 0,_,_ => none
  | k + 1,x0,x4 => if x4 < (x0.size : Int) then (if 0 ≤ x4 then (if (bt x0 x4) = 40 then (if x4 ≤ (x0.size : Int) then (some (x0.extract 0 (x4 : Int).toNat,x0.extract (x4 : Int).toNat x0.size)) else (none)) else (sr30_cut.l0 k x0 (wrap64 (x4 + 1)))) else (none)) else (some (x0,(⟨#[]⟩ : ByteArray)))
def sr30_cut.f (k : Nat) (a0 : ByteArray) : Option (ByteArray × ByteArray) := sr30_cut.l0 k a0 0
theorem sr30_cut.calls (k : Nat) (a0 : ByteArray) (r1 : ByteArray) (r2 : ByteArray) (w : World) (h : sr30_cut.f k a0 = some (r1, r2)) :
    Calls Tryz.prog 22 #[.string a0] w fun e w' => e = .returned (.tuple #[.string r1,.string r2]) ∧ Drawn0 w w':=by
 have H : (sr30_cut.l0 k a0 0) = some (r1,r2):=h
 clear h
 have H':=aq H
 clear H
 go_enter Tryz.func22,Tryz.ntmps22
 go_wp2
 repeat (go_quiet (fail);try go_wp2)
 go_loopg [4] k (fun kq v4 w' => ∃ (x4_1 : Int),v4 = .int .i64 x4_1 ∧ Aside0 (sr30_cut.l0 kq a0 x4_1 = some (r1,r2)) ∧ Aside0 (kq ≤ k) ∧ Drawn0 w w')
 case atStart => exact ⟨(0),eS,H',⟨Nat.le_refl _⟩,dR⟩
 case round =>
 clear H'
 obtain ⟨x4_1,rfl,HA,HK1,⟨m1,rfl⟩⟩:=hrel
 cases gk with
 | zero => exact absurd HA.out (by simp [sr30_cut.l0])
 | succ k1 =>
 have H:=HA.out
 clear HA
 simp only [sr30_cut.l0] at H
 by_cases c2 : x4_1 < (a0.size : Int)
 rotate_left
 · rw [if_neg c2] at H
   have c2b0 : decide (x4_1 < (a0.size : Int)) = false:=decide_eq_false c2
   clear c2
   simp only [Option.some.injEq,Prod.mk.injEq] at H
   obtain ⟨rfl,rfl⟩:=H
   go_wp2
   repeat (go_quiet (fail);try go_wp2)
   go_ret2
   exact ⟨eS,dR⟩
 rw [if_pos c2] at H
 have c2b0 : decide (x4_1 < (a0.size : Int)) = true:=decide_eq_true c2
 clear c2
 by_cases c3 : 0 ≤ x4_1
 rotate_left
 · rw [if_neg c3] at H
   exact absurd H (by simp)
 rw [if_pos c3] at H
 have c3b0 : decide (0 ≤ x4_1) = true:=decide_eq_true c3
 clear c3
 by_cases c5 : (bt a0 x4_1) = 40
 rotate_left
 · rw [if_neg c5] at H
   have c5b0 : ((bt a0 x4_1) == 40) = false:=beq_eq_false_iff_ne.mpr c5
   have c5b1 : ((bt a0 x4_1) != 40) = true:=bne_iff_ne.mpr c5
   have H':=aq H
   clear H
   have p4 : 0 ≤ (x4_1 : Int):=of_decide_eq_true aS
   have q4 : x4_1 < (a0.size : Int):=of_decide_eq_true aS
   have hx4:=bt_at a0 x4_1
   replace p4:=eq_true p4
   replace q4:=eq_true q4
   go_wp2
   repeat (go_quiet (fail);try go_wp2)
   go_roundg k1
   case measure => have:=HK1.out;omega
   case rel => exact ⟨(wrap64 (x4_1 + 1)),eS,H',⟨by have:=HK1.out;omega⟩,dR⟩
 rw [if_pos c5] at H
 have c5b0 : ((bt a0 x4_1) == 40) = true:=beq_iff_eq.mpr c5
 have c5b1 : ((bt a0 x4_1) != 40) = false:=bne_eq_false_iff_eq.mpr c5
 clear c5
 have c6b0:=eq_true (of_decide_eq_true aS : 0 ≤ x4_1)
 by_cases c7 : x4_1 ≤ (a0.size : Int)
 rotate_left
 · rw [if_neg c7] at H
   exact absurd H (by simp)
 rw [if_pos c7] at H
 have c7b0:=eq_true c7
 have c7b1 : decide (x4_1 ≤ (a0.size : Int)) = true:=decide_eq_true c7
 clear c7
 have c8b0:=eq_true (of_decide_eq_true aS : 0 ≤ x4_1)
 have c9b0:=eq_true (of_decide_eq_true aS : x4_1 ≤ (a0.size : Int))
 simp only [Option.some.injEq,Prod.mk.injEq] at H
 obtain ⟨rfl,rfl⟩:=H
 have p4 : 0 ≤ (x4_1 : Int):=of_decide_eq_true aS
 have q4 : x4_1 < (a0.size : Int):=of_decide_eq_true aS
 have hx4:=bt_at a0 x4_1
 replace p4:=eq_true p4
 replace q4:=eq_true q4
 go_wp2
 repeat (go_quiet (fail);try go_wp2)
 go_ret2
 exact ⟨eS,dR⟩
def sr30_Line.j0 : Nat → ByteArray → ByteArray → Bool → ByteArray → ByteArray → Option (ByteArray)
  | 0,_,_,_,_,_ => none
  | k + 1,x0,x7,x8,x104000,x104001 => if x8 = true then (if x0.size + 1 ≤ 9223372036854775807 then (if (x0 ++ (⟨#[32]⟩ : ByteArray)).size + x104000.size ≤ 9223372036854775807 then (if ((x0 ++ (⟨#[32]⟩ : ByteArray)) ++ x104000).size + 1 ≤ 9223372036854775807 then (if (((x0 ++ (⟨#[32]⟩ : ByteArray)) ++ x104000) ++ (⟨#[32]⟩ : ByteArray)).size + x104001.size ≤ 9223372036854775807 then (some ((((x0 ++ (⟨#[32]⟩ : ByteArray)) ++ x104000) ++ (⟨#[32]⟩ : ByteArray)) ++ x104001)) else (none)) else (none)) else (none)) else (none)) else (if x7.toList = ([109,101,116,104,111,100] : List UInt8) then ((sr30_cut.f k x104000).bind fun bt104 => (if x0.size + 1 ≤ 9223372036854775807 then (if (x0 ++ (⟨#[32]⟩ : ByteArray)).size + bt104.1.size ≤ 9223372036854775807 then (if ((x0 ++ (⟨#[32]⟩ : ByteArray)) ++ bt104.1).size + 1 ≤ 9223372036854775807 then (if (((x0 ++ (⟨#[32]⟩ : ByteArray)) ++ bt104.1) ++ (⟨#[32]⟩ : ByteArray)).size + bt104.2.size ≤ 9223372036854775807 then (if ((((x0 ++ (⟨#[32]⟩ : ByteArray)) ++ bt104.1) ++ (⟨#[32]⟩ : ByteArray)) ++ bt104.2).size + 1 ≤ 9223372036854775807 then (if (((((x0 ++ (⟨#[32]⟩ : ByteArray)) ++ bt104.1) ++ (⟨#[32]⟩ : ByteArray)) ++ bt104.2) ++ (⟨#[32]⟩ : ByteArray)).size + x104001.size ≤ 9223372036854775807 then (some ((((((x0 ++ (⟨#[32]⟩ : ByteArray)) ++ bt104.1) ++ (⟨#[32]⟩ : ByteArray)) ++ bt104.2) ++ (⟨#[32]⟩ : ByteArray)) ++ x104001)) else (none)) else (none)) else (none)) else (none)) else (none)) else (none))) else (some (⟨#[]⟩ : ByteArray)))
def sr30_Line.f (k : Nat) (a0 : ByteArray) (a1_0 : ByteArray) (a1_1 : ByteArray) : Option (ByteArray) := if a0.toList = ([99, 108, 97, 115, 115] : List UInt8) then (sr30_Line.j0 k a0 a0 (a0.toList == ([99, 108, 97, 115, 115] : List UInt8)) a1_0 a1_1) else (sr30_Line.j0 k a0 a0 (a0.toList == ([102, 105, 101, 108, 100] : List UInt8)) a1_0 a1_1)
theorem sr30_Line.calls (k : Nat) (a0 : ByteArray) (a1_0 : ByteArray) (a1_1 : ByteArray) (r : ByteArray) (w : World) (h : sr30_Line.f k a0 a1_0 a1_1 = some r) :
    Calls Tryz.prog 10 #[.string a0,.agg #[.string a1_0,.string a1_1]] w fun e w' => e = .returned (.string r) ∧ Below w.heap.size w w':=by
 have hu23:=Tryz.underlying23
 have HB:=aq (Below.refl w.heap.size w)
 have H : (if a0.toList = ([99,108,97,115,115] : List UInt8) then (sr30_Line.j0 k a0 a0 (a0.toList == ([99,108,97,115,115] : List UInt8)) a1_0 a1_1) else (sr30_Line.j0 k a0 a0 (a0.toList == ([102,105,101,108,100] : List UInt8)) a1_0 a1_1)) = some r:=h
 clear h
 have HC3:=aq H
 clear H
 go_enter Tryz.func10,Tryz.ntmps10
 go_upto_if 8 with (first|((with_reducible refine gate_dst (N:=3) rfl ?_);refine box_event rfl (N:=3) rfl (cs:=#[.string a1_0,.string a1_1]) (t:=23) gS ?_;intro gb103 hg w4 hbox hb;have BK103:=aq (hbox);have GE103:=aq ((GN hg : w.heap.size ≤ gb103));replace HB:=aq (below_step bH hb);clear hb hbox hg))
 (try simp only [Act.put,List.setIfInBounds_toArray,List.set_cons_zero,List.set_cons_succ])
 go_cut [8] (fun v8 wc => ∃ (kq : Nat) (x8_2 : Bool),v8 = .bool x8_2 ∧ Aside0 (sr30_Line.j0 kq a0 a0 x8_2 a1_0 a1_1 = some r) ∧ Aside0 (kq ≤ k) ∧ Aside0 (wc.heap[gb103]? = some (.cells #[.string a1_0,.string a1_1] 23 (0,0))) ∧ Aside0 (Below w.heap.size w wc))
 case first =>
  have H:=HC3.out
  clear HC3
  by_cases c5 : a0.toList = ([99,108,97,115,115] : List UInt8)
  rotate_left
  · rw [if_neg c5] at H
    have c5b0 : (a0.toList == ([99,108,97,115,115] : List UInt8)) = false:=beq_eq_false_iff_ne.mpr c5
    have c5b1 : (a0.toList != ([99,108,97,115,115] : List UInt8)) = true:=bne_iff_ne.mpr c5
    (first|rw [c5b0]|rw [c5b1]|(simp only [i64_w,i32_w];rw [c5b0])|skip)
    have H':=aq H
    clear H
    go_wp2
    go_meet
    case rel => exact ⟨_,((a0.toList == ([102,105,101,108,100] : List UInt8))),eS,H',⟨by first|omega|exact Nat.le_refl _⟩,⟨KU BK103.out⟩,⟨bH⟩⟩
  rw [if_pos c5] at H
  have c5b0 : (a0.toList == ([99,108,97,115,115] : List UInt8)) = true:=beq_iff_eq.mpr c5
  have c5b1 : (a0.toList != ([99,108,97,115,115] : List UInt8)) = false:=bne_eq_false_iff_eq.mpr c5
  clear c5
  (first|rw [c5b0]|rw [c5b1]|(simp only [i64_w,i32_w];rw [c5b0])|skip)
  have H':=aq H
  clear H
  go_wp2
  go_meet
  case rel => exact ⟨_,((a0.toList == ([99,108,97,115,115] : List UInt8))),eS,H',⟨by first|omega|exact Nat.le_refl _⟩,⟨KU BK103.out⟩,⟨bH⟩⟩
 case rest =>
 clear HC3
 obtain ⟨kq,x8_2,rfl,HA,HJ2,BK103,HB⟩:=hcut
 cases kq with
 | zero => exact absurd HA.out (by simp [sr30_Line.j0])
 | succ kj2 =>
 have H:=HA.out
 clear HA
 simp only [sr30_Line.j0] at H
 by_cases c6 : x8_2 = true
 · subst c6
   have H1 : (if a0.size + 1 ≤ 9223372036854775807 then (if (a0 ++ (⟨#[32]⟩ : ByteArray)).size + a1_0.size ≤ 9223372036854775807 then (if ((a0 ++ (⟨#[32]⟩ : ByteArray)) ++ a1_0).size + 1 ≤ 9223372036854775807 then (if (((a0 ++ (⟨#[32]⟩ : ByteArray)) ++ a1_0) ++ (⟨#[32]⟩ : ByteArray)).size + a1_1.size ≤ 9223372036854775807 then (some ((((a0 ++ (⟨#[32]⟩ : ByteArray)) ++ a1_0) ++ (⟨#[32]⟩ : ByteArray)) ++ a1_1)) else (none)) else (none)) else (none)) else (none)) = some r:=by rw [if_pos rfl] at H;exact H
   clear H
   have H:=H1
   clear H1
   by_cases c7 : a0.size + 1 ≤ 9223372036854775807
   rotate_left
   · rw [if_neg c7] at H
     exact absurd H (by simp)
   rw [if_pos c7] at H
   have c7b0:=eq_true c7
   have c7b1 : decide (a0.size + 1 ≤ 9223372036854775807) = true:=decide_eq_true c7
   try have c7b2 : (9223372036854775807 < a0.size + 1) = False:=eq_false (Nat.not_lt.2 c7)
   by_cases c8 : (a0 ++ (⟨#[32]⟩ : ByteArray)).size + a1_0.size ≤ 9223372036854775807
   rotate_left
   · rw [if_neg c8] at H
     exact absurd H (by simp)
   rw [if_pos c8] at H
   have c8b0:=eq_true c8
   have c8b1 : decide ((a0 ++ (⟨#[32]⟩ : ByteArray)).size + a1_0.size ≤ 9223372036854775807) = true:=decide_eq_true c8
   try have c8b2 : (9223372036854775807 < (a0 ++ (⟨#[32]⟩ : ByteArray)).size + a1_0.size) = False:=eq_false (Nat.not_lt.2 c8)
   try have c8b3 : (9223372036854775807 < (a0.size + 1) + a1_0.size) = False:=eq_false (Nat.not_lt.2 (by have h_:=c8;simp only [ByteArray.size_append] at h_;exact h_))
   try have c8b4 : (9223372036854775807 < a0.size + 1) = False:=eq_false (Nat.not_lt.2 (Nat.le_trans (Nat.le_add_right _ _) (show (a0.size + 1) + a1_0.size ≤ 9223372036854775807 from by have h_:=c8;simp only [ByteArray.size_append] at h_;exact h_)))
   by_cases c9 : ((a0 ++ (⟨#[32]⟩ : ByteArray)) ++ a1_0).size + 1 ≤ 9223372036854775807
   rotate_left
   · rw [if_neg c9] at H
     exact absurd H (by simp)
   rw [if_pos c9] at H
   have c9b0:=eq_true c9
   have c9b1 : decide (((a0 ++ (⟨#[32]⟩ : ByteArray)) ++ a1_0).size + 1 ≤ 9223372036854775807) = true:=decide_eq_true c9
   try have c9b2 : (9223372036854775807 < ((a0 ++ (⟨#[32]⟩ : ByteArray)) ++ a1_0).size + 1) = False:=eq_false (Nat.not_lt.2 c9)
   try have c9b3 : (9223372036854775807 < (a0.size + 1 + a1_0.size) + 1) = False:=eq_false (Nat.not_lt.2 (by have h_:=c9;simp only [ByteArray.size_append] at h_;exact h_))
   try have c9b4 : (9223372036854775807 < a0.size + 1 + a1_0.size) = False:=eq_false (Nat.not_lt.2 (Nat.le_trans (Nat.le_add_right _ _) (show (a0.size + 1 + a1_0.size) + 1 ≤ 9223372036854775807 from by have h_:=c9;simp only [ByteArray.size_append] at h_;exact h_)))
   by_cases c10 : (((a0 ++ (⟨#[32]⟩ : ByteArray)) ++ a1_0) ++ (⟨#[32]⟩ : ByteArray)).size + a1_1.size ≤ 9223372036854775807
   rotate_left
   · rw [if_neg c10] at H
     exact absurd H (by simp)
   rw [if_pos c10] at H
   have c10b0:=eq_true c10
   have c10b1 : decide ((((a0 ++ (⟨#[32]⟩ : ByteArray)) ++ a1_0) ++ (⟨#[32]⟩ : ByteArray)).size + a1_1.size ≤ 9223372036854775807) = true:=decide_eq_true c10
   try have c10b2 : (9223372036854775807 < (((a0 ++ (⟨#[32]⟩ : ByteArray)) ++ a1_0) ++ (⟨#[32]⟩ : ByteArray)).size + a1_1.size) = False:=eq_false (Nat.not_lt.2 c10)
   try have c10b3 : (9223372036854775807 < (a0.size + 1 + a1_0.size + 1) + a1_1.size) = False:=eq_false (Nat.not_lt.2 (by have h_:=c10;simp only [ByteArray.size_append] at h_;exact h_))
   try have c10b4 : (9223372036854775807 < a0.size + 1 + a1_0.size + 1) = False:=eq_false (Nat.not_lt.2 (Nat.le_trans (Nat.le_add_right _ _) (show (a0.size + 1 + a1_0.size + 1) + a1_1.size ≤ 9223372036854775807 from by have h_:=c10;simp only [ByteArray.size_append] at h_;exact h_)))
   obtain rfl:=Option.some.inj H
   have hcz11_0 : wc.cell? ⟨gb103,0,none⟩ = some (.string a1_0):=(blk_cell BK103.out 0).trans rfl
   have hcz11_1 : wc.cell? ⟨gb103,1,none⟩ = some (.string a1_1):=(blk_cell BK103.out 1).trans rfl
   have hfz11_0:=blk_frozen BK103.out 0
   have hfz11_1:=blk_frozen BK103.out 1
   go_wp2
   go_ret
   exact ⟨eR,bH⟩
 replace c6:=Bool.eq_false_iff.mpr c6
 subst c6
 have H1 : (if a0.toList = ([109,101,116,104,111,100] : List UInt8) then ((sr30_cut.f kj2 a1_0).bind fun bt104 => (if a0.size + 1 ≤ 9223372036854775807 then (if (a0 ++ (⟨#[32]⟩ : ByteArray)).size + bt104.1.size ≤ 9223372036854775807 then (if ((a0 ++ (⟨#[32]⟩ : ByteArray)) ++ bt104.1).size + 1 ≤ 9223372036854775807 then (if (((a0 ++ (⟨#[32]⟩ : ByteArray)) ++ bt104.1) ++ (⟨#[32]⟩ : ByteArray)).size + bt104.2.size ≤ 9223372036854775807 then (if ((((a0 ++ (⟨#[32]⟩ : ByteArray)) ++ bt104.1) ++ (⟨#[32]⟩ : ByteArray)) ++ bt104.2).size + 1 ≤ 9223372036854775807 then (if (((((a0 ++ (⟨#[32]⟩ : ByteArray)) ++ bt104.1) ++ (⟨#[32]⟩ : ByteArray)) ++ bt104.2) ++ (⟨#[32]⟩ : ByteArray)).size + a1_1.size ≤ 9223372036854775807 then (some ((((((a0 ++ (⟨#[32]⟩ : ByteArray)) ++ bt104.1) ++ (⟨#[32]⟩ : ByteArray)) ++ bt104.2) ++ (⟨#[32]⟩ : ByteArray)) ++ a1_1)) else (none)) else (none)) else (none)) else (none)) else (none)) else (none))) else (some (⟨#[]⟩ : ByteArray))) = some r:=by rw [if_neg (show ¬ (false = true) by decide)] at H;exact H
 clear H
 have H:=H1
 clear H1
 by_cases c12 : a0.toList = ([109,101,116,104,111,100] : List UInt8)
 rotate_left
 · rw [if_neg c12] at H
   have c12b0 : (a0.toList == ([109,101,116,104,111,100] : List UInt8)) = false:=beq_eq_false_iff_ne.mpr c12
   have c12b1 : (a0.toList != ([109,101,116,104,111,100] : List UInt8)) = true:=bne_iff_ne.mpr c12
   obtain rfl:=Option.some.inj H
   go_wp2
   go_ret
   exact ⟨eR,bH⟩
 rw [if_pos c12] at H
 have c12b0 : (a0.toList == ([109,101,116,104,111,100] : List UInt8)) = true:=beq_iff_eq.mpr c12
 have c12b1 : (a0.toList != ([109,101,116,104,111,100] : List UInt8)) = false:=bne_eq_false_iff_eq.mpr c12
 clear c12
 replace H:=Option.bind_eq_some_iff.mp H
 obtain ⟨⟨t104,t105⟩,A130,H⟩:=H
 replace H : (if a0.size + 1 ≤ 9223372036854775807 then (if (a0 ++ (⟨#[32]⟩ : ByteArray)).size + t104.size ≤ 9223372036854775807 then (if ((a0 ++ (⟨#[32]⟩ : ByteArray)) ++ t104).size + 1 ≤ 9223372036854775807 then (if (((a0 ++ (⟨#[32]⟩ : ByteArray)) ++ t104) ++ (⟨#[32]⟩ : ByteArray)).size + t105.size ≤ 9223372036854775807 then (if ((((a0 ++ (⟨#[32]⟩ : ByteArray)) ++ t104) ++ (⟨#[32]⟩ : ByteArray)) ++ t105).size + 1 ≤ 9223372036854775807 then (if (((((a0 ++ (⟨#[32]⟩ : ByteArray)) ++ t104) ++ (⟨#[32]⟩ : ByteArray)) ++ t105) ++ (⟨#[32]⟩ : ByteArray)).size + a1_1.size ≤ 9223372036854775807 then (some ((((((a0 ++ (⟨#[32]⟩ : ByteArray)) ++ t104) ++ (⟨#[32]⟩ : ByteArray)) ++ t105) ++ (⟨#[32]⟩ : ByteArray)) ++ a1_1)) else (none)) else (none)) else (none)) else (none)) else (none)) else (none)) = some r:=H
 have A13:=aq A130
 clear A130
 by_cases c14 : a0.size + 1 ≤ 9223372036854775807
 rotate_left
 · rw [if_neg c14] at H
   exact absurd H (by simp)
 rw [if_pos c14] at H
 have c14b0:=eq_true c14
 have c14b1 : decide (a0.size + 1 ≤ 9223372036854775807) = true:=decide_eq_true c14
 try have c14b2 : (9223372036854775807 < a0.size + 1) = False:=eq_false (Nat.not_lt.2 c14)
 by_cases c15 : (a0 ++ (⟨#[32]⟩ : ByteArray)).size + t104.size ≤ 9223372036854775807
 rotate_left
 · rw [if_neg c15] at H
   exact absurd H (by simp)
 rw [if_pos c15] at H
 have c15b0:=eq_true c15
 have c15b1 : decide ((a0 ++ (⟨#[32]⟩ : ByteArray)).size + t104.size ≤ 9223372036854775807) = true:=decide_eq_true c15
 try have c15b2 : (9223372036854775807 < (a0 ++ (⟨#[32]⟩ : ByteArray)).size + t104.size) = False:=eq_false (Nat.not_lt.2 c15)
 try have c15b3 : (9223372036854775807 < (a0.size + 1) + t104.size) = False:=eq_false (Nat.not_lt.2 (by have h_:=c15;simp only [ByteArray.size_append] at h_;exact h_))
 try have c15b4 : (9223372036854775807 < a0.size + 1) = False:=eq_false (Nat.not_lt.2 (Nat.le_trans (Nat.le_add_right _ _) (show (a0.size + 1) + t104.size ≤ 9223372036854775807 from by have h_:=c15;simp only [ByteArray.size_append] at h_;exact h_)))
 by_cases c16 : ((a0 ++ (⟨#[32]⟩ : ByteArray)) ++ t104).size + 1 ≤ 9223372036854775807
 rotate_left
 · rw [if_neg c16] at H
   exact absurd H (by simp)
 rw [if_pos c16] at H
 have c16b0:=eq_true c16
 have c16b1 : decide (((a0 ++ (⟨#[32]⟩ : ByteArray)) ++ t104).size + 1 ≤ 9223372036854775807) = true:=decide_eq_true c16
 try have c16b2 : (9223372036854775807 < ((a0 ++ (⟨#[32]⟩ : ByteArray)) ++ t104).size + 1) = False:=eq_false (Nat.not_lt.2 c16)
 try have c16b3 : (9223372036854775807 < (a0.size + 1 + t104.size) + 1) = False:=eq_false (Nat.not_lt.2 (by have h_:=c16;simp only [ByteArray.size_append] at h_;exact h_))
 try have c16b4 : (9223372036854775807 < a0.size + 1 + t104.size) = False:=eq_false (Nat.not_lt.2 (Nat.le_trans (Nat.le_add_right _ _) (show (a0.size + 1 + t104.size) + 1 ≤ 9223372036854775807 from by have h_:=c16;simp only [ByteArray.size_append] at h_;exact h_)))
 by_cases c17 : (((a0 ++ (⟨#[32]⟩ : ByteArray)) ++ t104) ++ (⟨#[32]⟩ : ByteArray)).size + t105.size ≤ 9223372036854775807
 rotate_left
 · rw [if_neg c17] at H
   exact absurd H (by simp)
 rw [if_pos c17] at H
 have c17b0:=eq_true c17
 have c17b1 : decide ((((a0 ++ (⟨#[32]⟩ : ByteArray)) ++ t104) ++ (⟨#[32]⟩ : ByteArray)).size + t105.size ≤ 9223372036854775807) = true:=decide_eq_true c17
 try have c17b2 : (9223372036854775807 < (((a0 ++ (⟨#[32]⟩ : ByteArray)) ++ t104) ++ (⟨#[32]⟩ : ByteArray)).size + t105.size) = False:=eq_false (Nat.not_lt.2 c17)
 try have c17b3 : (9223372036854775807 < (a0.size + 1 + t104.size + 1) + t105.size) = False:=eq_false (Nat.not_lt.2 (by have h_:=c17;simp only [ByteArray.size_append] at h_;exact h_))
 try have c17b4 : (9223372036854775807 < a0.size + 1 + t104.size + 1) = False:=eq_false (Nat.not_lt.2 (Nat.le_trans (Nat.le_add_right _ _) (show (a0.size + 1 + t104.size + 1) + t105.size ≤ 9223372036854775807 from by have h_:=c17;simp only [ByteArray.size_append] at h_;exact h_)))
 by_cases c18 : ((((a0 ++ (⟨#[32]⟩ : ByteArray)) ++ t104) ++ (⟨#[32]⟩ : ByteArray)) ++ t105).size + 1 ≤ 9223372036854775807
 rotate_left
 · rw [if_neg c18] at H
   exact absurd H (by simp)
 rw [if_pos c18] at H
 have c18b0:=eq_true c18
 have c18b1 : decide (((((a0 ++ (⟨#[32]⟩ : ByteArray)) ++ t104) ++ (⟨#[32]⟩ : ByteArray)) ++ t105).size + 1 ≤ 9223372036854775807) = true:=decide_eq_true c18
 try have c18b2 : (9223372036854775807 < ((((a0 ++ (⟨#[32]⟩ : ByteArray)) ++ t104) ++ (⟨#[32]⟩ : ByteArray)) ++ t105).size + 1) = False:=eq_false (Nat.not_lt.2 c18)
 try have c18b3 : (9223372036854775807 < (a0.size + 1 + t104.size + 1 + t105.size) + 1) = False:=eq_false (Nat.not_lt.2 (by have h_:=c18;simp only [ByteArray.size_append] at h_;exact h_))
 try have c18b4 : (9223372036854775807 < a0.size + 1 + t104.size + 1 + t105.size) = False:=eq_false (Nat.not_lt.2 (Nat.le_trans (Nat.le_add_right _ _) (show (a0.size + 1 + t104.size + 1 + t105.size) + 1 ≤ 9223372036854775807 from by have h_:=c18;simp only [ByteArray.size_append] at h_;exact h_)))
 by_cases c19 : (((((a0 ++ (⟨#[32]⟩ : ByteArray)) ++ t104) ++ (⟨#[32]⟩ : ByteArray)) ++ t105) ++ (⟨#[32]⟩ : ByteArray)).size + a1_1.size ≤ 9223372036854775807
 rotate_left
 · rw [if_neg c19] at H
   exact absurd H (by simp)
 rw [if_pos c19] at H
 have c19b0:=eq_true c19
 have c19b1 : decide ((((((a0 ++ (⟨#[32]⟩ : ByteArray)) ++ t104) ++ (⟨#[32]⟩ : ByteArray)) ++ t105) ++ (⟨#[32]⟩ : ByteArray)).size + a1_1.size ≤ 9223372036854775807) = true:=decide_eq_true c19
 try have c19b2 : (9223372036854775807 < (((((a0 ++ (⟨#[32]⟩ : ByteArray)) ++ t104) ++ (⟨#[32]⟩ : ByteArray)) ++ t105) ++ (⟨#[32]⟩ : ByteArray)).size + a1_1.size) = False:=eq_false (Nat.not_lt.2 c19)
 try have c19b3 : (9223372036854775807 < (a0.size + 1 + t104.size + 1 + t105.size + 1) + a1_1.size) = False:=eq_false (Nat.not_lt.2 (by have h_:=c19;simp only [ByteArray.size_append] at h_;exact h_))
 try have c19b4 : (9223372036854775807 < a0.size + 1 + t104.size + 1 + t105.size + 1) = False:=eq_false (Nat.not_lt.2 (Nat.le_trans (Nat.le_add_right _ _) (show (a0.size + 1 + t104.size + 1 + t105.size + 1) + a1_1.size ≤ 9223372036854775807 from by have h_:=c19;simp only [ByteArray.size_append] at h_;exact h_)))
 obtain rfl:=Option.some.inj H
 have hcz20_0 : wc.cell? ⟨gb103,0,none⟩ = some (.string a1_0):=(blk_cell BK103.out 0).trans rfl
 have hcz20_1 : wc.cell? ⟨gb103,1,none⟩ = some (.string a1_1):=(blk_cell BK103.out 1).trans rfl
 have hfz20_0:=blk_frozen BK103.out 0
 have hfz20_1:=blk_frozen BK103.out 1
 go_wp2_with (first|((with_reducible refine gate_callee (f:=22) rfl ?_);refine goesL_ (some 25) rfl rfl Tryz.func22 (by kernel_rfl) rfl #[.string a1_0] rfl eA ?_;(with_reducible refine (sr30_cut.calls kj2 a1_0 t104 t105 _ A13.out).mono ?_);rintro e w' ⟨rfl,⟨nd,rfl⟩⟩;refine ⟨_,rfl,?_⟩))
 go_ret
 exact ⟨eR,bH⟩
end Go.Proofs.YtaokkkolbifdpaaGreatDoor.Q31
end

section
namespace Go.Proofs.YtaokkkolbifdpaaGreatDoor.Q31
open Go.RowKit Go.Proofs.YtaokkkolbifdpaaGreatDoorW
open PrintWords PrintLast PrintMore
attribute [local go_sem] max2_int min2_int max_two min_two max_three min_three max_four min_four
end Go.Proofs.YtaokkkolbifdpaaGreatDoor.Q31
end

section
namespace Go.Proofs.YtaokkkolbifdpaaGreatDoor.Hand
open Go.RowKit Go.Proofs.YtaokkkolbifdpaaGreatDoorW
open PrintWords PrintLast PrintMore
theorem key_at : ∀ (a r : List UInt8), (40 : UInt8) ∉ a → keyN (a ++ 40 :: r) = a ∧ keyD (a ++ 40 :: r) = 40 :: r
 | [],r,_ => by simp [keyN,keyD]
 | b :: a,r,h => by
  have hb : (b != 40) = true:=bne_iff_ne.2 fun e => h (by rw [e];exact List.mem_cons_self)
  obtain ⟨h1,h2⟩:=key_at a r fun hm => h (List.mem_cons_of_mem _ hm)
  unfold keyN at h1
  unfold keyD at h2
  unfold keyN keyD
  rw [List.cons_append,List.takeWhile_cons,List.dropWhile_cons,hb,if_pos rfl,if_pos rfl,h1,h2]
  exact ⟨rfl,rfl⟩
theorem cut_loopQ31 (s : ByteArray) (hs : s.size ≤ 1048576) : ∀ (d k i : Nat), s.size - i = d → i ≤ s.size → d < k → (40 : UInt8) ∉ (bl s).take i → Q31.sr30_cut.l0 k s (i : Int) = some (lb (keyN (bl s)), lb (keyD (bl s)))
 | 0,k,i,hd,hi,hk,hn => by
  obtain ⟨k,rfl⟩ : ∃ j,k = j + 1:=⟨k - 1,by omega⟩
  rw [List.take_of_length_le (by rw [bl_len];omega)] at hn
  rw [Q31.sr30_cut.l0,if_neg (by omega),(key_none hn).1,(key_none hn).2,lb_bl]
  rfl
 | d + 1,k,i,hd,hi,hk,hn => by
  obtain ⟨k,rfl⟩ : ∃ j,k = j + 1:=⟨k - 1,by omega⟩
  have hlt : i < s.size:=by omega
  have hdr : (bl s).drop i = s[i] :: (bl s).drop (i + 1):=drop_data s i hlt
  have hsp : bl s = (bl s).take i ++ s[i] :: (bl s).drop (i + 1):=by rw [← hdr,List.take_append_drop]
  rw [Q31.sr30_cut.l0,if_pos (by omega),if_pos (by omega),bt_nat s i hlt]
  by_cases h40 : s[i] = 40
  ·
   have hl : (bl s).take i ++ (40 : UInt8) :: (bl s).drop (i + 1) = bl s:=by rw [← h40];exact hsp.symm
   have hk2:=key_at ((bl s).take i) ((bl s).drop (i + 1)) hn
   rw [hl] at hk2
   rw [if_pos (by rw [h40];rfl),if_pos (by omega),Int.toNat_natCast,ext_front,ext_back,hk2.1,hk2.2,hdr,h40]
  ·
   have e40 : (40 : UInt8).toNat = 40:=rfl
   have hne : ¬ ((s[i].toNat : Int) = 40):=fun h => h40 (UInt8.toNat_inj.1 (by omega))
   have hw : wrap64 ((i : Int) + 1) = ((i + 1 : Nat) : Int):=by unfold wrap64;omega
   have ih:=cut_loopQ31 s hs d k (i + 1) (by omega) (by omega) (by omega) (by
    rw [List.take_succ_eq_append_getElem (by rw [bl_len];exact hlt),List.mem_append]
    rintro (h|h)
    ·
     exact hn h
    ·
     rw [List.mem_singleton] at h
     have e : (bl s)[i]'(by rw [bl_len];exact hlt) = s[i]:=get_data s i hlt
     rw [e] at h
     exact h40 h.symm)
   rw [if_neg hne,hw,ih]
theorem cut_eqQ31 (s : ByteArray) (hs : s.size ≤ 1048576) (k : Nat) (hk : s.size < k) : Q31.sr30_cut.f k s = some (lb (keyN (bl s)), lb (keyD (bl s))) := cut_loopQ31 s hs s.size k 0 (by omega) (by omega) hk (by simp)
theorem cut_loopQ32 (s : ByteArray) (hs : s.size ≤ 1048576) : ∀ (d k i : Nat), s.size - i = d → i ≤ s.size → d < k → (40 : UInt8) ∉ (bl s).take i → Q32.sr30_cut.l0 k s (i : Int) = some (lb (keyN (bl s)), lb (keyD (bl s)))
 | 0,k,i,hd,hi,hk,hn => by
  obtain ⟨k,rfl⟩ : ∃ j,k = j + 1:=⟨k - 1,by omega⟩
  rw [List.take_of_length_le (by rw [bl_len];omega)] at hn
  rw [Q32.sr30_cut.l0,if_neg (by omega),(key_none hn).1,(key_none hn).2,lb_bl]
  rfl
 | d + 1,k,i,hd,hi,hk,hn => by
  obtain ⟨k,rfl⟩ : ∃ j,k = j + 1:=⟨k - 1,by omega⟩
  have hlt : i < s.size:=by omega
  have hdr : (bl s).drop i = s[i] :: (bl s).drop (i + 1):=drop_data s i hlt
  have hsp : bl s = (bl s).take i ++ s[i] :: (bl s).drop (i + 1):=by rw [← hdr,List.take_append_drop]
  rw [Q32.sr30_cut.l0,if_pos (by omega),if_pos (by omega),bt_nat s i hlt]
  by_cases h40 : s[i] = 40
  ·
   have hl : (bl s).take i ++ (40 : UInt8) :: (bl s).drop (i + 1) = bl s:=by rw [← h40];exact hsp.symm
   have hk2:=key_at ((bl s).take i) ((bl s).drop (i + 1)) hn
   rw [hl] at hk2
   rw [if_pos (by rw [h40];rfl),if_pos (by omega),Int.toNat_natCast,ext_front,ext_back,hk2.1,hk2.2,hdr,h40]
  ·
   have e40 : (40 : UInt8).toNat = 40:=rfl
   have hne : ¬ ((s[i].toNat : Int) = 40):=fun h => h40 (UInt8.toNat_inj.1 (by omega))
   have hw : wrap64 ((i : Int) + 1) = ((i + 1 : Nat) : Int):=by unfold wrap64;omega
   have ih:=cut_loopQ32 s hs d k (i + 1) (by omega) (by omega) (by omega) (by
    rw [List.take_succ_eq_append_getElem (by rw [bl_len];exact hlt),List.mem_append]
    rintro (h|h)
    ·
     exact hn h
    ·
     rw [List.mem_singleton] at h
     have e : (bl s)[i]'(by rw [bl_len];exact hlt) = s[i]:=get_data s i hlt
     rw [e] at h
     exact h40 h.symm)
   rw [if_neg hne,hw,ih]
theorem cut_eqQ32 (s : ByteArray) (hs : s.size ≤ 1048576) (k : Nat) (hk : s.size < k) : Q32.sr30_cut.f k s = some (lb (keyN (bl s)), lb (keyD (bl s))) := cut_loopQ32 s hs s.size k 0 (by omega) (by omega) hk (by simp)
theorem ref_j0 (what old new : ByteArray) (k : Nat) (b : Bool) (ho : old.size ≤ 1048576) (hn : new.size ≤ 1048576) (hw : bl what = wClass ∨ bl what = wField → b = true) (hb : b = true → bl what = wClass ∨ bl what = wField) (hk : old.size < k) :
  Q31.sr30_Line.j0 (k + 1) what what b old new = some (lb (lineS (bl what) (bl old,bl new))):=by
 rw [Q31.sr30_Line.j0]
 unfold lineS
 have sp : (⟨#[32]⟩ : ByteArray).size = 1:=rfl
 have bsp : bl (⟨#[32]⟩ : ByteArray) = [32]:=rfl
 by_cases h : bl what = wClass ∨ bl what = wField
 ·
  have hz : what.size = 5:=by rcases h with h|h <;> exact size_of_bl h
  rw [if_pos (hw h),if_pos h,if_pos (by omega),if_pos (by rw [ByteArray.size_append,sp];omega),if_pos (by rw [ByteArray.size_append,ByteArray.size_append,sp];omega),if_pos (by rw [ByteArray.size_append,ByteArray.size_append,ByteArray.size_append,sp];omega)]
  refine congrArg some (bl_inj ?_)
  rw [bl_lb]
  simp only [bl_append,bsp,lineL]
  simp
 ·
  have hbf : ¬ b = true:=fun q => h (hb q)
  rw [if_neg hbf,if_neg h]
  by_cases h3 : bl what = wMethod
  ·
   have e3 : what.toList = ([109,101,116,104,111,100] : List UInt8):=(toList_bl _).trans h3
   have hz : what.size = 6:=size_of_bl h3
   have hk1:=keyN_len (bl old)
   have hk2:=keyD_len (bl old)
   rw [bl_len] at hk1 hk2
   rw [if_pos e3,if_pos h3,cut_eqQ31 old ho k hk,Option.bind_some]
   show (if _ then _ else _) = _
   rw [if_pos (by omega),if_pos (by rw [ByteArray.size_append,sp,lb_size];omega),if_pos (by rw [ByteArray.size_append,ByteArray.size_append,sp,lb_size];omega),if_pos (by rw [ByteArray.size_append,ByteArray.size_append,ByteArray.size_append,sp,lb_size,lb_size];omega),
    if_pos (by rw [ByteArray.size_append,ByteArray.size_append,ByteArray.size_append,ByteArray.size_append,sp,lb_size,lb_size];omega),if_pos (by rw [ByteArray.size_append,ByteArray.size_append,ByteArray.size_append,ByteArray.size_append,ByteArray.size_append,sp,lb_size,lb_size];omega)]
   refine congrArg some (bl_inj ?_)
   rw [bl_lb]
   simp only [bl_append,bsp,bl_lb,lineL]
   simp
  ·
   have e3 : ¬ what.toList = ([109,101,116,104,111,100] : List UInt8):=fun he => h3 ((toList_bl _).symm.trans he)
   rw [if_neg e3,if_neg h3]
   rfl
theorem refLine_eq (what old new : ByteArray) (ho : old.size ≤ 1048576) (hn : new.size ≤ 1048576) : Q31.sr30_Line.f (old.size + 2) what old new = some (lb (lineS (bl what) (bl old, bl new))) := by
 unfold Q31.sr30_Line.f
 have q1 : (what.toList = ([99,108,97,115,115] : List UInt8)) ↔ bl what = wClass:=by rw [toList_bl];exact Iff.rfl
 have q2 : (what.toList == ([99,108,97,115,115] : List UInt8)) = true ↔ bl what = wClass:=by rw [beq_iff_eq,toList_bl];exact Iff.rfl
 have q3 : (what.toList == ([102,105,101,108,100] : List UInt8)) = true ↔ bl what = wField:=by rw [beq_iff_eq,toList_bl];exact Iff.rfl
 by_cases h1 : bl what = wClass
 ·
  rw [if_pos (q1.2 h1)]
  exact ref_j0 what old new (old.size + 1) _ ho hn (fun _ => q2.2 h1) (fun h => .inl (q2.1 h)) (by omega)
 ·
  rw [if_neg (fun h => h1 (q1.1 h))]
  exact ref_j0 what old new (old.size + 1) _ ho hn (fun h => q3.2 (h.resolve_left h1)) (fun h => .inr (q3.1 h)) (by omega)
def sr30_Line.f (what old new : ByteArray) : Option ByteArray := legend_Line.f what old new
theorem sr30_Line.calls (a0 : ByteArray) (a1_0 : ByteArray) (a1_1 : ByteArray) (r : ByteArray) (w : World) (h : sr30_Line.f a0 a1_0 a1_1 = some r) :
  Calls Tryz.prog 10 #[.string a0,.agg #[.string a1_0,.string a1_1]] w fun e w' => e = .returned (.string r) ∧ Below w.heap.size w w':=by
 unfold sr30_Line.f legend_Line.f at h
 split at h
 ·
  rename_i hs
  exact (Q31.sr30_Line.calls (a1_0.size + 2) a0 a1_0 a1_1 r w ((refLine_eq a0 a1_0 a1_1 hs.1 hs.2).trans h)).mono fun e w' ⟨he,hb⟩ => ⟨he,by first|exact hb|exact hb.below⟩
 ·
  cases h
theorem bt_zero (c : List UInt8) (h : 0 < c.length) : bt (lb c) 0 = ((c[0]'h).toNat : Int) := by
 have h1:=bt_nat (lb c) 0 (by rw [lb_size];exact h)
 exact h1
theorem refRead_j1 (l : List (List UInt8)) (k : Nat) (b : Bool) (a c d e : List UInt8) (hl : l = [a, c, d, e]) (hs : ∀ x ∈ l, x.length ≤ 1048576) (hb : b = decide (a = wMethod ∧ d.head? = some 40)) (hk : c.length < k) :
  Q32.sr30_Read.j1 (k + 1) (l.map lb) b = some (legOut (if a = wMethod ∧ (40 : UInt8) ∉ c ∧ d.head? = some 40 then (a,(c ++ d,e),true) else ([],([],[]),false))):=by
 subst hl
 rw [Q32.sr30_Read.j1]
 have r1 : rdOf ByteArray.empty ([a,c,d,e].map lb) 1 = lb c:=rfl
 have r2 : rdOf ByteArray.empty ([a,c,d,e].map lb) 2 = lb d:=rfl
 have r0 : rdOf ByteArray.empty ([a,c,d,e].map lb) 0 = lb a:=rfl
 have r3 : rdOf ByteArray.empty ([a,c,d,e].map lb) 3 = lb e:=rfl
 have hlen : (([a,c,d,e].map lb).length : Int) = 4:=rfl
 rw [hlen,r0,r1,r2,r3,hb]
 by_cases h : a = wMethod ∧ d.head? = some 40
 ·
  rw [decide_eq_true h,if_pos rfl,if_pos (by decide),cut_eqQ32 (lb c) (by rw [lb_size];exact hs c (by simp)) k (by rw [lb_size];exact hk),Option.bind_some,bl_lb]
  show (if (lb (keyD c)).toList = ([] : List UInt8) then _ else _) = _
  rw [toList_bl,bl_lb]
  by_cases hm : (40 : UInt8) ∈ c
  ·
   obtain ⟨r,hr⟩:=key_some hm
   rw [if_neg (by rw [hr];exact List.cons_ne_nil _ _),if_neg (fun q => q.2.1 hm)]
   rfl
  ·
   have hc:=hs c (by simp)
   have hd:=hs d (by simp)
   rw [if_pos (key_none hm).2,if_pos (by decide),if_pos (by decide),if_pos (by rw [lb_size,lb_size];omega),if_pos (by decide),if_pos ⟨h.1,hm,h.2⟩]
   have : lb c ++ lb d = lb (c ++ d):=by apply bl_inj;rw [bl_append,bl_lb,bl_lb,bl_lb]
   rw [this]
   rfl
 ·
  rw [decide_eq_false h,if_neg (by decide),if_neg (fun q => h ⟨q.1,q.2.2⟩)]
  rfl
theorem refRead_no (l : List (List UInt8)) (k : Nat) : Q32.sr30_Read.j1 (k + 1) (l.map lb) false = some (legOut ([], ([], []), false)) := by
 rw [Q32.sr30_Read.j1,if_neg (by decide)]
 rfl
theorem refRead_j0 (l : List (List UInt8)) (k : Nat) (hs : ∀ x ∈ l, x.length ≤ 1048576) (hk : ∀ x ∈ l, x.length < k) (b : Bool) (hb : b = true ↔ ∃ a c d, l = [a, c, d] ∧ (a = wClass ∨ a = wField)) :
  Q32.sr30_Read.j0 (k + 2) (l.map lb) b = some (legOut (readF l)):=by
 rw [Q32.sr30_Read.j0]
 cases b with
 | true =>
  obtain ⟨a,c,d,rfl,ha⟩:=hb.1 rfl
  have hlen : (([a,c,d].map lb).length : Int) = 3:=rfl
  rw [if_pos rfl,hlen,if_pos (by decide),if_pos (by decide),if_pos (by decide)]
  unfold readF
  simp only [if_pos ha]
  rfl
 | false =>
  rw [if_neg (by decide)]
  by_cases h4 : l.length = 4
  ·
   match l,h4,hs,hk with
   | [a,c,d,e],_,hs,hk =>
    have hlen : (([a,c,d,e].map lb).length : Int) = 4:=rfl
    have r0 : rdOf ByteArray.empty ([a,c,d,e].map lb) 0 = lb a:=rfl
    have r2 : rdOf ByteArray.empty ([a,c,d,e].map lb) 2 = lb d:=rfl
    rw [hlen,if_pos rfl,if_pos (by decide),r0,r2]
    have fin : ∀ b,b = decide (a = wMethod ∧ d.head? = some 40) → Q32.sr30_Read.j1 (k + 1) ([a,c,d,e].map lb) b = some (legOut (readF [a,c,d,e])):=fun b hb => refRead_j1 [a,c,d,e] k b a c d e rfl hs hb (hk c (by simp))
    have q1 : ((lb a).toList = ([109,101,116,104,111,100] : List UInt8)) ↔ a = wMethod:=lb_word
    by_cases h3 : a = wMethod
    ·
     rw [if_pos (q1.2 h3),if_pos (by decide),lb_size]
     cases d with
     | nil =>
      rw [if_neg (by decide)]
      exact fin _ (by rw [decide_eq_false];rintro ⟨_,h⟩;cases h)
     | cons x d =>
      rw [if_pos (by simp),if_pos (by simp)]
      refine fin _ ?_
      rw [bt_zero (x :: d) (by simp)]
      show (((x.toNat : Int) == 40) : Bool) = _
      by_cases hx : x = 40
      ·
       subst hx
       rw [decide_eq_true ⟨h3,rfl⟩]
       rfl
      ·
       rw [decide_eq_false (by rintro ⟨_,h⟩;simp at h;exact hx h)]
       have e40 : (40 : UInt8).toNat = 40:=rfl
       exact beq_eq_false_iff_ne.2 fun h => hx (UInt8.toNat_inj.1 (by omega))
    ·
     rw [if_neg (fun h => h3 (q1.1 h))]
     exact fin _ (by rw [decide_eq_false];rintro ⟨h,_⟩;exact h3 h)
  ·
   have hlen : ((l.map lb).length : Int) = (l.length : Int):=by rw [List.length_map]
   rw [hlen,if_neg (by omega),refRead_no]
   have : readF l = ([],([],[]),false):=by
    match l,h4,hb with
    | [],_,_ => rfl
    | [_],_,_ => rfl
    | [_,_],_,_ => rfl
    | [a,c,d],_,hb =>
     unfold readF
     have : ¬ (a = wClass ∨ a = wField):=fun h => by have:=hb.2 ⟨a,c,d,rfl,h⟩;cases this
     simp only [if_neg this]
    | [_,_,_,_],h,_ => exact absurd rfl h
    | _ :: _ :: _ :: _ :: _ :: _,_,_ => rfl
   rw [this]
theorem refRead_eq (s : ByteArray) (hs : s.size ≤ 1000000) : Q32.sr30_Read.f (s.size + 3) s = some (legOut (readS (bl s))) := by
 unfold Q32.sr30_Read.f sr04_Fields.f word_Fields.f readS
 rw [if_pos (by omega),Option.bind_some]
 have hsz : ∀ a ∈ fieldsL (bl s),a.length ≤ s.size:=fun a ha => by
  have:=fld_mem (bl s) [] a ha
  rw [bl_len] at this
  simpa using this
 generalize fieldsL (bl s) = l at hsz ⊢
 have go:=fun b hb => refRead_j0 l (s.size + 1) (fun x hx => by have:=hsz x hx;omega) (fun x hx => by have:=hsz x hx;omega) b hb
 have q1 : ∀ x : List UInt8,((lb x).toList = ([99,108,97,115,115] : List UInt8)) ↔ x = wClass:=fun x => lb_word
 have q3 : ∀ x : List UInt8,((lb x).toList == ([102,105,101,108,100] : List UInt8)) = decide (x = wField):=fun x => lb_beq x wField
 have hlen : ((l.map lb).length : Int) = (l.length : Int):=by rw [List.length_map]
 rw [hlen]
 by_cases h3 : l.length = 3
 ·
  match l,h3,go with
  | [a,c,d],_,go =>
   have r0 : rdOf ByteArray.empty ([a,c,d].map lb) 0 = lb a:=rfl
   rw [if_pos (by rfl),if_pos (by simp),r0]
   by_cases h1 : a = wClass
   ·
    rw [if_pos ((q1 a).2 h1)]
    exact go _ ⟨fun _ => ⟨a,c,d,rfl,.inl h1⟩,fun _ => rfl⟩
   ·
    rw [if_neg (fun h => h1 ((q1 a).1 h)),q3]
    refine go _ ⟨fun h => ⟨a,c,d,rfl,.inr (of_decide_eq_true h)⟩,?_⟩
    rintro ⟨a',c',d',h,h2⟩
    simp only [List.cons.injEq] at h
    obtain ⟨rfl,_⟩:=h
    exact decide_eq_true (h2.resolve_left h1)
 ·
  rw [if_neg (by omega)]
  refine go _ ⟨(fun h => by cases h),?_⟩
  rintro ⟨a,c,d,rfl,_⟩
  exact absurd rfl h3
def sr30_Read.f (s : ByteArray) : Option (ByteArray × ByteArray × ByteArray × Bool) := if s.size ≤ 1000000 then some (legOut (readS (bl s))) else none
theorem sr30_Read.calls (a0 : ByteArray) (r1 : ByteArray) (r2 : ByteArray) (r3 : ByteArray) (r4 : Bool) (w : World) (h : sr30_Read.f a0 = some (r1, r2, r3, r4)) :
  Calls Tryz.prog 8 #[.string a0] w fun e w' => e = .returned (.tuple #[.string r1,.agg #[.string r2,.string r3],.bool r4]) ∧ Below w.heap.size w w':=by
 unfold sr30_Read.f at h
 split at h
 ·
  rename_i hs
  exact Q32.sr30_Read.calls (a0.size + 3) a0 r1 r2 r3 r4 w ((refRead_eq a0 hs).trans h)
 ·
  cases h
def Ev {β : Type} (F : Nat → Option β) (b : β) : Prop := ∃ K, ∀ k, K ≤ k → F k = some b
theorem Ev.cst {β : Type} {F : Nat → Option β} {b : β} (h : ∀ k, F k = some b) : Ev F b := ⟨0, fun k _ => h k⟩
theorem Ev.step {β : Type} {F G : Nat → Option β} {b : β} (h : Ev F b) (he : ∀ k, G (k + 1) = F k) : Ev G b := by
 obtain ⟨K,hK⟩:=h
 refine ⟨K + 1,fun k hk => ?_⟩
 obtain ⟨j,rfl⟩ : ∃ j,k = j + 1:=⟨k - 1,by omega⟩
 rw [he,hK j (by omega)]
theorem Ev.congr {β : Type} {F G : Nat → Option β} {b : β} (h : Ev F b) (he : ∀ k, G k = F k) : Ev G b := by
 obtain ⟨K,hK⟩:=h
 exact ⟨K,fun k hk => by rw [he,hK k hk]⟩
theorem Ev.bind {α β : Type} {F : Nat → Option α} {a : α} (h : Ev F a) {G : Nat → α → Option β} {b : β} (hg : Ev (fun k => G k a) b) : Ev (fun k => (F k).bind (G k)) b := by
 obtain ⟨K,hK⟩:=h
 obtain ⟨L,hL⟩:=hg
 refine ⟨max K L,fun k hk => ?_⟩
 show (F k).bind (G k) = some b
 rw [hK k (by omega)]
 exact hL k (by omega)
theorem ev_loop {n : Nat} (F : Nat → Nat → Option Bool) (good : Nat → Bool) (b : Bool) (hend : Ev (fun k => F k n) b)
  (hstep : ∀ i,i < n → ∀ v,Ev (fun k => F k (i + 1)) v → Ev (fun k => F k i) (good i && v)) :
  ∀ d i,i + d = n → Ev (fun k => F k i) ((List.range' i d).all good && b)
 | 0,i,h => by
  have e : i = n:=by omega
  subst e
  exact hend
 | d + 1,i,h => by
  have ih:=hstep i (by omega) _ (ev_loop F good b hend hstep d (i + 1) (by omega))
  rw [← Bool.and_assoc] at ih
  exact ih
theorem ev_loop0 {n : Nat} (F : Nat → Nat → Option Bool) (good : Nat → Bool) (b : Bool) (hend : Ev (fun k => F k n) b)
  (hstep : ∀ i,i < n → ∀ v,Ev (fun k => F k (i + 1)) v → Ev (fun k => F k i) (good i && v)) :
  Ev (fun k => F k 0) ((List.range n).all good && b):=by
 rw [List.range_eq_range']
 exact ev_loop F good b hend hstep n 0 (by omega)
theorem getD_at {α : Type} (l : List α) (x0 : α) (i : Nat) (h : i < l.length) : l.getD i x0 = l[i] := by
 rw [List.getD_eq_getElem?_getD,List.getElem?_eq_getElem h]
 rfl
theorem all_alike {α β : Type} [DecidableEq β] (l : List α) (x0 : α) (ok : α → Bool) (f : α → β) :
  ((List.range l.length).all fun i => ok (l.getD i x0) && (List.range i).all fun j => !decide (f (l.getD j x0) = f (l.getD i x0))) = (l.all ok && decide (l.map f).Nodup):=by
 rw [Bool.eq_iff_iff]
 simp only [List.all_eq_true,List.mem_range,Bool.and_eq_true,Bool.not_eq_true',decide_eq_false_iff_not,decide_eq_true_eq]
 constructor
 ·
  intro h
  refine ⟨fun x hx => ?_,?_⟩
  ·
   obtain ⟨i,hi,rfl⟩:=List.mem_iff_getElem.1 hx
   have h1:=(h i hi).1
   rw [getD_at l x0 i hi] at h1
   exact h1
  ·
   rw [List.nodup_iff_pairwise_ne,List.pairwise_iff_getElem]
   intro i j hi hj hij
   rw [List.length_map] at hi hj
   have h1:=(h j hj).2 i hij
   rw [getD_at l x0 i hi,getD_at l x0 j hj] at h1
   rw [List.getElem_map,List.getElem_map]
   exact h1
 ·
  rintro ⟨h1,h2⟩ i hi
  rw [getD_at l x0 i hi]
  refine ⟨h1 _ (List.getElem_mem hi),fun j hj => ?_⟩
  rw [getD_at l x0 j (by omega)]
  rw [List.nodup_iff_pairwise_ne,List.pairwise_iff_getElem] at h2
  have h3:=h2 j i (by rw [List.length_map];omega) (by rw [List.length_map];exact hi) hj
  rw [List.getElem_map,List.getElem_map] at h3
  exact h3
theorem name_no40 {l : List UInt8} (h : nameL l = true) : (40 : UInt8) ∉ l := by
 intro hm
 unfold nameL at h
 rw [Bool.or_eq_true] at h
 rcases h with h|h
 ·
  rw [of_decide_eq_true h] at hm
  exact absurd hm (by decide)
 ·
  unfold ofL at h
  rw [Bool.and_eq_true,List.all_eq_true] at h
  have h1:=h.1 _ hm
  exact absurd h1 (by decide)
theorem ren_head (d : List UInt8) (cl : List (List UInt8 × List UInt8)) (h : (renD classL d cl).isEmpty = false) : ∃ t, renD classL d cl = 40 :: t := by
 unfold renD at h ⊢
 generalize hq : splitD classL d = q at h ⊢
 obtain ⟨ps,r,e⟩:=q
 simp only at h ⊢
 split
 ·
  rename_i he
  rw [if_pos he] at h
  unfold descD at h ⊢
  split
  ·
   rename_i h1
   rw [if_pos h1] at h
   split
   ·
    rename_i h2
    rw [if_pos h2] at h
    cases h
   ·
    rename_i h2
    rw [if_neg h2] at h
    split
    ·
     rename_i h3
     rw [if_pos h3] at h
     cases h
    ·
     exact ⟨_,rfl⟩
  ·
   rename_i h1
   rw [if_neg h1] at h
   cases h
 ·
  rename_i he
  rw [if_neg he] at h
  cases h
def thereP (cl : List (List UInt8 × List UInt8)) (x : List UInt8 × List UInt8) : List UInt8 × List UInt8 := (x.2, renD classL (keyD x.1) cl)
theorem there_eq {cl : List (List UInt8 × List UInt8)} {x y : List UInt8 × List UInt8} (hx : methodB cl x = true) (hy : methodB cl y = true) : thereP cl x = thereP cl y ↔ thereB cl x = thereB cl y := by
 unfold methodB at hx hy
 simp only [Bool.and_eq_true,Bool.not_eq_true'] at hx hy
 obtain ⟨t,ht⟩:=ren_head (keyD x.1) cl hx.1.2
 obtain ⟨u,hu⟩:=ren_head (keyD y.1) cl hy.1.2
 have k1:=key_at x.2 t (name_no40 hx.1.1.2)
 have k2:=key_at y.2 u (name_no40 hy.1.1.2)
 unfold thereP thereB
 rw [ht,hu]
 constructor
 ·
  intro h
  rw [Prod.mk.injEq] at h
  rw [h.1,h.2]
 ·
  intro h
  rw [h] at k1
  rw [Prod.mk.injEq]
  exact ⟨k1.1.symm.trans k2.1,k1.2.symm.trans k2.2⟩
theorem there_nodup (cl l : List (List UInt8 × List UInt8)) (h : l.all (methodB cl) = true) : (l.map (thereP cl)).Nodup ↔ (l.map (thereB cl)).Nodup := by
 rw [List.all_eq_true] at h
 rw [List.nodup_iff_pairwise_ne,List.nodup_iff_pairwise_ne,List.pairwise_map,List.pairwise_map]
 constructor
 ·
  intro hp
  refine hp.imp_of_mem fun {a b} ha hb hne he => hne ((there_eq (h a ha) (h b hb)).2 he)
 ·
  intro hp
  refine hp.imp_of_mem fun {a b} ha hb hne he => hne ((there_eq (h a ha) (h b hb)).1 he)
def refR (l0 l1 l2 : List S23) : Bool :=
 (risesP l0 && risesP l1 && risesP l2) && ((l0.all fun x => classL (bl x.f0) && classL (bl x.f1)) && decide (l0.map fun x => bl x.f1).Nodup && (((l1.all fun x => nameL (bl x.f0) && nameL (bl x.f1)) && decide (l1.map fun x => bl x.f1).Nodup) && (((l2.all fun x => methodB (l0.map pairT) (pairT x)) && decide (l2.map fun x => thereP (l0.map pairT) (pairT x)).Nodup) && true)))
theorem refR_eq (l0 l1 l2 : List S23) : refR l0 l1 l2 = rightS l0 l1 l2 := by
 unfold refR rightS
 rw [unlike_nodup,unlike_nodup,unlike_nodup]
 by_cases h : (l2.all fun x => methodB (l0.map pairT) (pairT x)) = true
 ·
  have e : (l2.map fun x => thereP (l0.map pairT) (pairT x)).Nodup ↔ (l2.map fun x => thereB (l0.map pairT) (pairT x)).Nodup:=by
   have h1 : ((l2.map pairT).all (methodB (l0.map pairT))) = true:=by rw [List.all_map];exact h
   have h2:=there_nodup (l0.map pairT) (l2.map pairT) h1
   rw [List.map_map,List.map_map] at h2
   exact h2
  have e2 : decide (l2.map fun x => thereP (l0.map pairT) (pairT x)).Nodup = decide (l2.map fun x => thereB (l0.map pairT) (pairT x)).Nodup:=decide_eq_decide.2 e
  rw [e2]
  simp only [Bool.and_assoc,Bool.and_true]
 ·
  have h':=eq_false_of_ne_true h
  rw [h']
  simp only [Bool.false_and,Bool.and_false]
def sr29_rises.f (l : List S23) : Option Bool := if l.length ≤ 1048576 then some (risesP l) else none
theorem sr29_rises.calls (A0 : Option Addr) (c0 : Nat) (l0 : List S23) (r : Bool) (w : World) (hr0 : Kd.C k23 w A0 l0.length l0) (hc0 : l0.length ≤ c0) (h : sr29_rises.f l0 = some r) :
  Calls Tryz.prog 57 #[.slice A0 l0.length c0] w fun e w' => e = .returned (.bool r) ∧ Below w.heap.size w w':=by
 unfold sr29_rises.f at h
 by_cases hl : l0.length ≤ 1048576
 ·
  rw [if_pos hl] at h
  obtain rfl:=Option.some.inj h
  exact ref_rises A0 c0 l0 w hr0 hc0 hl
 ·
  rw [if_neg hl] at h
  exact absurd h (by simp)
end Go.Proofs.YtaokkkolbifdpaaGreatDoor.Hand
end

section
namespace Go.Proofs.YtaokkkolbifdpaaGreatDoor.Q8
open Go.RowKit Go.Proofs.YtaokkkolbifdpaaGreatDoorW
open PrintWords PrintLast PrintMore Go.Proofs.YtaokkkolbifdpaaGreatDoor.Hand
attribute [local go_sem] max2_int min2_int max_two min_two max_three min_three max_four min_four
def errW : Option Int → Value
  | none => .nilIface
  | some c => .iface 0 (.int .i64 c)
theorem errW_none : errW none = .nilIface := rfl
theorem errW_some (c : Int) : errW (some c) = .iface 0 (.int .i64 c) := rfl
theorem info9 : (Tryz.prog.info? 9).map (fun i => (i.zero, i.size, i.bytes)) = some (some (.string ⟨#[]⟩), 1, 16) := by kernel_rfl
theorem info102 : (Tryz.prog.info? 102).map (fun i => (i.zero, i.size, i.bytes)) = some (some (.agg #[(.int .i64 0), (.string ⟨#[]⟩)]), 2, 24) := by kernel_rfl
mutual
def sr06_next.j0 : Nat → ByteArray → Int → Bool → Option (Int × ByteArray × Int × Bool)
  | 0,_,_,_ => none
  | k + 1,x0,x1,x7 => if x7 = true then (sr06_next.j1 k x0 (wrap64 (x1 + 1)) x7) else (sr06_next.j1 k x0 x1 x7)
def sr06_next.j1 : Nat → ByteArray → Int → Bool → Option (Int × ByteArray × Int × Bool)
  | 0,_,_,_ => none
  | k + 1,x0,x1,x7 => if x1 ≥ (x0.size : Int) then (some (0,(⟨#[]⟩ : ByteArray),0,false)) else (if 0 ≤ x1 then (if x1 < (x0.size : Int) then (if (bt x0 x1) = 86 then (some (1,(⟨#[]⟩ : ByteArray),wrap64 (x1 + 1),!x7)) else (if (bt x0 x1) = 73 then (if x7 = true then (some (4,(⟨#[]⟩ : ByteArray),wrap64 (x1 + 1),true)) else (some (2,(⟨#[]⟩ : ByteArray),wrap64 (x1 + 1),true))) else (if (bt x0 x1) = 76 then (sr06_next.l0 k x0 x1 x7 x1) else (some (0,(⟨#[]⟩ : ByteArray),0,false))))) else (none)) else (none))
def sr06_next.j3 : Nat → ByteArray → Int → Bool → Int → Option (Int × ByteArray × Int × Bool)
  | 0,_,_,_,_ => none
  | k + 1,x0,x1,x7,x8 => if x8 ≥ (x0.size : Int) then (sr06_next.j4 k x0 x1 x7 x8 true) else (if 0 ≤ (wrap64 (x1 + 1)) then (if (wrap64 (x1 + 1)) ≤ x8 then (if x8 ≤ (x0.size : Int) then ((sr04_Class.f (x0.extract ((wrap64 (x1 + 1)) : Int).toNat (x8 : Int).toNat)).bind fun t102 => (sr06_next.j4 k x0 x1 x7 x8 (!t102))) else (none)) else (none)) else (none))
def sr06_next.j4 : Nat → ByteArray → Int → Bool → Int → Bool → Option (Int × ByteArray × Int × Bool)
  | 0,_,_,_,_,_ => none
  | k + 1,x0,x1,x7,x8,x75 => if x75 = true then (some (0,(⟨#[]⟩ : ByteArray),0,false)) else (if 0 ≤ (wrap64 (x1 + 1)) then (if (wrap64 (x1 + 1)) ≤ x8 then (if x8 ≤ (x0.size : Int) then (if x7 = true then (some (5,x0.extract ((wrap64 (x1 + 1)) : Int).toNat (x8 : Int).toNat,wrap64 (x8 + 1),true)) else (some (3,x0.extract ((wrap64 (x1 + 1)) : Int).toNat (x8 : Int).toNat,wrap64 (x8 + 1),true))) else (none)) else (none)) else (none))
def sr06_next.l0 : Nat → ByteArray → Int → Bool → Int → Option (Int × ByteArray × Int × Bool)
  | 0,_,_,_,_ => none
  | k + 1,x0,x1,x7,x8 => if x8 < (x0.size : Int) then (if 0 ≤ x8 then (if (bt x0 x8) = 59 then (sr06_next.j3 k x0 x1 x7 x8) else (sr06_next.l0 k x0 x1 x7 (wrap64 (x8 + 1)))) else (none)) else (sr06_next.j3 k x0 x1 x7 x8)
end
def sr06_next.f (k : Nat) (a0 : ByteArray) (a1 : Int) : Option (Int × ByteArray × Int × Bool) := if a1 < (a0.size : Int) then (if 0 ≤ a1 then (sr06_next.j0 k a0 a1 ((bt a0 a1) == 91)) else (none)) else (sr06_next.j0 k a0 a1 false)
theorem sr06_next.calls (k : Nat) (a0 : ByteArray) (a1 : Int) (r1 : Int) (r2 : ByteArray) (r3 : Int) (r4 : Bool) (w : World) (h : sr06_next.f k a0 a1 = some (r1, r2, r3, r4)) :
    Calls Tryz.prog 107 #[.string a0,.int .i64 a1] w fun e w' => e = .returned (.tuple #[.agg #[.int .i64 r1,.string r2],.int .i64 r3,.bool r4]) ∧ Below w.heap.size w w':=by
 have hu102:=Tryz.underlying102
 have HB:=aq (Below.refl w.heap.size w)
 have H : (if a1 < (a0.size : Int) then (if 0 ≤ a1 then (sr06_next.j0 k a0 a1 ((bt a0 a1) == 91)) else (none)) else (sr06_next.j0 k a0 a1 false)) = some (r1,r2,r3,r4):=h
 clear h
 have HC3:=aq H
 clear H
 go_enter Tryz.func107,Tryz.ntmps107
 go_upto_region 1 with (first|((with_reducible refine gate_dst (N:=4) rfl ?_);refine box_event rfl (N:=4) rfl (cs:=#[.int .i64 0,.string (⟨#[]⟩ : ByteArray)]) (t:=102) gS ?_;intro gb101 hg w4 hbox hb;have BK101:=aq (hbox);have GE101:=aq ((GN hg : w.heap.size ≤ gb101));replace HB:=aq (below_step bH hb);clear hb hbox hg))
 (try simp only [Act.put,List.setIfInBounds_toArray,List.set_cons_zero,List.set_cons_succ])
 go_cut [7] (fun v7 wc => ∃ (kq : Nat) (x7_2 : Bool),v7 = .bool x7_2 ∧ Aside0 (sr06_next.j0 kq a0 a1 x7_2 = some (r1,r2,r3,r4)) ∧ Aside0 (kq ≤ k) ∧ Aside0 (wc.heap[gb101]? = some (.cells #[.int .i64 0,.string (⟨#[]⟩ : ByteArray)] 102 (0,0))) ∧ Aside0 (Below w.heap.size w wc))
 case first =>
  have H:=HC3.out
  clear HC3
  by_cases c5 : a1 < (a0.size : Int)
  rotate_left
  · rw [if_neg c5] at H
    have c5b0 : decide (a1 < (a0.size : Int)) = false:=decide_eq_false c5
    clear c5
    (first|rw [c5b0]|rw [c5b1]|(simp only [i64_w,i32_w];rw [c5b0])|skip)
    have H':=aq H
    clear H
    go_wp2
    go_meet
    case rel => exact ⟨_,(false),eS,H',⟨by first|omega|exact Nat.le_refl _⟩,⟨KU BK101.out⟩,⟨bH⟩⟩
  rw [if_pos c5] at H
  have c5b0 : decide (a1 < (a0.size : Int)) = true:=decide_eq_true c5
  clear c5
  (first|rw [c5b0]|rw [c5b1]|(simp only [i64_w,i32_w];rw [c5b0])|skip)
  by_cases c6 : 0 ≤ a1
  rotate_left
  · rw [if_neg c6] at H
    exact absurd H (by simp)
  rw [if_pos c6] at H
  have c6b0 : decide (0 ≤ a1) = true:=decide_eq_true c6
  clear c6
  have H':=aq H
  clear H
  have p7 : 0 ≤ (a1 : Int):=of_decide_eq_true aS
  have q7 : a1 < (a0.size : Int):=of_decide_eq_true aS
  have hx7:=bt_at a0 a1
  replace p7:=eq_true p7
  replace q7:=eq_true q7
  go_wp2
  go_meet
  case rel => exact ⟨_,(((bt a0 a1) == 91)),eS,H',⟨by first|omega|exact Nat.le_refl _⟩,⟨KU BK101.out⟩,⟨bH⟩⟩
 case rest =>
 clear HC3
 obtain ⟨kq,x7_2,rfl,HA,HJ2,BK101,HB⟩:=hcut
 cases kq with
 | zero => exact absurd HA.out (by simp [sr06_next.j0])
 | succ kj2 =>
 have H:=HA.out
 clear HA
 simp only [sr06_next.j0] at H
 have HC8:=aq H
 clear H
 go_upto_if 20 with (fail)
 go_cut [1] (fun v1 wc => ∃ (kq : Nat) (x1_7 : Int),v1 = .int .i64 x1_7 ∧ Aside0 (sr06_next.j1 kq a0 x1_7 x7_2 = some (r1,r2,r3,r4)) ∧ Aside0 (kq ≤ kj2) ∧ Aside0 (wc.heap[gb101]? = some (.cells #[.int .i64 0,.string (⟨#[]⟩ : ByteArray)] 102 (0,0))) ∧ Aside0 (Below w.heap.size w wc))
 case first =>
  have H:=HC8.out
  clear HC8
  by_cases c9 : x7_2 = true
  · subst c9
    have H1 : (sr06_next.j1 kj2 a0 (wrap64 (a1 + 1)) true) = some (r1,r2,r3,r4):=by rw [if_pos rfl] at H;exact H
    clear H
    have H:=H1
    clear H1
    have H':=aq H
    clear H
    go_wp2
    go_meet
    case rel => exact ⟨_,(wrap64 (a1 + 1)),eS,H',⟨by have:=HJ2.out;first|omega|exact Nat.le_refl _⟩,⟨KU BK101.out⟩,⟨bH⟩⟩
  replace c9:=Bool.eq_false_iff.mpr c9
  subst c9
  have H1 : (sr06_next.j1 kj2 a0 a1 false) = some (r1,r2,r3,r4):=by rw [if_neg (show ¬ (false = true) by decide)] at H;exact H
  clear H
  have H:=H1
  clear H1
  have H':=aq H
  clear H
  go_wp2
  go_meet
  case rel => exact ⟨_,(a1),eS,H',⟨by have:=HJ2.out;first|omega|exact Nat.le_refl _⟩,⟨KU BK101.out⟩,⟨bH⟩⟩
 case rest =>
 clear HC8
 obtain ⟨kq,x1_7,rfl,HA,HJ7,BK101,HB⟩:=hcut
 cases kq with
 | zero => exact absurd HA.out (by simp [sr06_next.j1])
 | succ kj7 =>
 have H:=HA.out
 clear HA
 simp only [sr06_next.j1] at H
 by_cases c10 : x1_7 ≥ (a0.size : Int)
 · rw [if_pos c10] at H
   have c10b0 : decide ((a0.size : Int) ≤ x1_7) = true:=decide_eq_true c10
   clear c10
   simp only [Option.some.injEq,Prod.mk.injEq] at H
   obtain ⟨rfl,rfl,rfl,rfl⟩:=H
   have hcz11_0 : wc.cell? ⟨gb101,0,none⟩ = some (.int .i64 0):=(blk_cell BK101.out 0).trans rfl
   have hcz11_1 : wc.cell? ⟨gb101,1,none⟩ = some (.string (⟨#[]⟩ : ByteArray)):=(blk_cell BK101.out 1).trans rfl
   have hfz11_0:=blk_frozen BK101.out 0
   have hfz11_1:=blk_frozen BK101.out 1
   go_wp2
   refine bodyPost_ret (results_ctt rfl _ _ gb101 102 #[.int .i64 0,.string (⟨#[]⟩ : ByteArray)] (0,0) _ rfl (by refine KU ?_;refine blk_put (cs:=#[.int .i64 0,.string (⟨#[]⟩ : ByteArray)]) ?_ 1 _ rfl;refine KU ?_;refine blk_put (cs:=#[.int .i64 0,.string (⟨#[]⟩ : ByteArray)]) ?_ 0 _ rfl;refine KU ?_;exact BK101.out) Tryz.underlying102 rfl (by kernel_rfl)) rfl ?_
   exact ⟨eR,bH⟩
 rw [if_neg c10] at H
 have c10b0 : decide ((a0.size : Int) ≤ x1_7) = false:=decide_eq_false c10
 clear c10
 by_cases c12 : 0 ≤ x1_7
 rotate_left
 · rw [if_neg c12] at H
   exact absurd H (by simp)
 rw [if_pos c12] at H
 have c12b0 : decide (0 ≤ x1_7) = true:=decide_eq_true c12
 clear c12
 by_cases c13 : x1_7 < (a0.size : Int)
 rotate_left
 · rw [if_neg c13] at H
   exact absurd H (by simp)
 rw [if_pos c13] at H
 have c13b0 : decide (x1_7 < (a0.size : Int)) = true:=decide_eq_true c13
 clear c13
 by_cases c15 : (bt a0 x1_7) = 86
 · rw [if_pos c15] at H
   have c15b0 : ((bt a0 x1_7) == 86) = true:=beq_iff_eq.mpr c15
   have c15b1 : ((bt a0 x1_7) != 86) = false:=bne_eq_false_iff_eq.mpr c15
   clear c15
   simp only [Option.some.injEq,Prod.mk.injEq] at H
   obtain ⟨rfl,rfl,rfl,rfl⟩:=H
   have p14 : 0 ≤ (x1_7 : Int):=of_decide_eq_true aS
   have q14 : x1_7 < (a0.size : Int):=of_decide_eq_true aS
   have hx14:=bt_at a0 x1_7
   replace p14:=eq_true p14
   replace q14:=eq_true q14
   have hcz16_0 : wc.cell? ⟨gb101,0,none⟩ = some (.int .i64 0):=(blk_cell BK101.out 0).trans rfl
   have hcz16_1 : wc.cell? ⟨gb101,1,none⟩ = some (.string (⟨#[]⟩ : ByteArray)):=(blk_cell BK101.out 1).trans rfl
   have hfz16_0:=blk_frozen BK101.out 0
   have hfz16_1:=blk_frozen BK101.out 1
   go_wp2
   refine bodyPost_ret (results_ctt rfl _ _ gb101 102 #[.int .i64 1,.string (⟨#[]⟩ : ByteArray)] (0,0) _ rfl (by refine KU ?_;refine blk_put (cs:=#[.int .i64 1,.string (⟨#[]⟩ : ByteArray)]) ?_ 1 _ rfl;refine KU ?_;refine blk_put (cs:=#[.int .i64 0,.string (⟨#[]⟩ : ByteArray)]) ?_ 0 _ rfl;refine KU ?_;exact BK101.out) Tryz.underlying102 rfl (by kernel_rfl)) rfl ?_
   exact ⟨eR,bH⟩
 rw [if_neg c15] at H
 have c15b0 : ((bt a0 x1_7) == 86) = false:=beq_eq_false_iff_ne.mpr c15
 have c15b1 : ((bt a0 x1_7) != 86) = true:=bne_iff_ne.mpr c15
 by_cases c17 : (bt a0 x1_7) = 73
 · rw [if_pos c17] at H
   have c17b0 : ((bt a0 x1_7) == 73) = true:=beq_iff_eq.mpr c17
   have c17b1 : ((bt a0 x1_7) != 73) = false:=bne_eq_false_iff_eq.mpr c17
   clear c17
   by_cases c18 : x7_2 = true
   · subst c18
     have H1 : (some (4,(⟨#[]⟩ : ByteArray),wrap64 (x1_7 + 1),true)) = some (r1,r2,r3,r4):=by rw [if_pos rfl] at H;exact H
     clear H
     have H:=H1
     clear H1
     simp only [Option.some.injEq,Prod.mk.injEq] at H
     obtain ⟨rfl,rfl,rfl,rfl⟩:=H
     have p14 : 0 ≤ (x1_7 : Int):=of_decide_eq_true aS
     have q14 : x1_7 < (a0.size : Int):=of_decide_eq_true aS
     have hx14:=bt_at a0 x1_7
     replace p14:=eq_true p14
     replace q14:=eq_true q14
     have hcz19_0 : wc.cell? ⟨gb101,0,none⟩ = some (.int .i64 0):=(blk_cell BK101.out 0).trans rfl
     have hcz19_1 : wc.cell? ⟨gb101,1,none⟩ = some (.string (⟨#[]⟩ : ByteArray)):=(blk_cell BK101.out 1).trans rfl
     have hfz19_0:=blk_frozen BK101.out 0
     have hfz19_1:=blk_frozen BK101.out 1
     go_wp2
     refine bodyPost_ret (results_ctt rfl _ _ gb101 102 #[.int .i64 4,.string (⟨#[]⟩ : ByteArray)] (0,0) _ rfl (by refine KU ?_;refine blk_put (cs:=#[.int .i64 4,.string (⟨#[]⟩ : ByteArray)]) ?_ 1 _ rfl;refine KU ?_;refine blk_put (cs:=#[.int .i64 0,.string (⟨#[]⟩ : ByteArray)]) ?_ 0 _ rfl;refine KU ?_;exact BK101.out) Tryz.underlying102 rfl (by kernel_rfl)) rfl ?_
     exact ⟨eR,bH⟩
   replace c18:=Bool.eq_false_iff.mpr c18
   subst c18
   have H1 : (some (2,(⟨#[]⟩ : ByteArray),wrap64 (x1_7 + 1),true)) = some (r1,r2,r3,r4):=by rw [if_neg (show ¬ (false = true) by decide)] at H;exact H
   clear H
   have H:=H1
   clear H1
   simp only [Option.some.injEq,Prod.mk.injEq] at H
   obtain ⟨rfl,rfl,rfl,rfl⟩:=H
   have p14 : 0 ≤ (x1_7 : Int):=of_decide_eq_true aS
   have q14 : x1_7 < (a0.size : Int):=of_decide_eq_true aS
   have hx14:=bt_at a0 x1_7
   replace p14:=eq_true p14
   replace q14:=eq_true q14
   have hcz20_0 : wc.cell? ⟨gb101,0,none⟩ = some (.int .i64 0):=(blk_cell BK101.out 0).trans rfl
   have hcz20_1 : wc.cell? ⟨gb101,1,none⟩ = some (.string (⟨#[]⟩ : ByteArray)):=(blk_cell BK101.out 1).trans rfl
   have hfz20_0:=blk_frozen BK101.out 0
   have hfz20_1:=blk_frozen BK101.out 1
   go_wp2
   refine bodyPost_ret (results_ctt rfl _ _ gb101 102 #[.int .i64 2,.string (⟨#[]⟩ : ByteArray)] (0,0) _ rfl (by refine KU ?_;refine blk_put (cs:=#[.int .i64 2,.string (⟨#[]⟩ : ByteArray)]) ?_ 1 _ rfl;refine KU ?_;refine blk_put (cs:=#[.int .i64 0,.string (⟨#[]⟩ : ByteArray)]) ?_ 0 _ rfl;refine KU ?_;exact BK101.out) Tryz.underlying102 rfl (by kernel_rfl)) rfl ?_
   exact ⟨eR,bH⟩
 rw [if_neg c17] at H
 have c17b0 : ((bt a0 x1_7) == 73) = false:=beq_eq_false_iff_ne.mpr c17
 have c17b1 : ((bt a0 x1_7) != 73) = true:=bne_iff_ne.mpr c17
 by_cases c21 : (bt a0 x1_7) = 76
 rotate_left
 · rw [if_neg c21] at H
   have c21b0 : ((bt a0 x1_7) == 76) = false:=beq_eq_false_iff_ne.mpr c21
   have c21b1 : ((bt a0 x1_7) != 76) = true:=bne_iff_ne.mpr c21
   simp only [Option.some.injEq,Prod.mk.injEq] at H
   obtain ⟨rfl,rfl,rfl,rfl⟩:=H
   have p14 : 0 ≤ (x1_7 : Int):=of_decide_eq_true aS
   have q14 : x1_7 < (a0.size : Int):=of_decide_eq_true aS
   have hx14:=bt_at a0 x1_7
   replace p14:=eq_true p14
   replace q14:=eq_true q14
   have hcz49_0 : wc.cell? ⟨gb101,0,none⟩ = some (.int .i64 0):=(blk_cell BK101.out 0).trans rfl
   have hcz49_1 : wc.cell? ⟨gb101,1,none⟩ = some (.string (⟨#[]⟩ : ByteArray)):=(blk_cell BK101.out 1).trans rfl
   have hfz49_0:=blk_frozen BK101.out 0
   have hfz49_1:=blk_frozen BK101.out 1
   go_wp2
   refine bodyPost_ret (results_ctt rfl _ _ gb101 102 #[.int .i64 0,.string (⟨#[]⟩ : ByteArray)] (0,0) _ rfl (by refine KU ?_;refine blk_put (cs:=#[.int .i64 0,.string (⟨#[]⟩ : ByteArray)]) ?_ 1 _ rfl;refine KU ?_;refine blk_put (cs:=#[.int .i64 0,.string (⟨#[]⟩ : ByteArray)]) ?_ 0 _ rfl;refine KU ?_;exact BK101.out) Tryz.underlying102 rfl (by kernel_rfl)) rfl ?_
   exact ⟨eR,bH⟩
 rw [if_pos c21] at H
 have c21b0 : ((bt a0 x1_7) == 76) = true:=beq_iff_eq.mpr c21
 have c21b1 : ((bt a0 x1_7) != 76) = false:=bne_eq_false_iff_eq.mpr c21
 clear c21
 have HC22:=aq H
 clear H
 have p14 : 0 ≤ (x1_7 : Int):=of_decide_eq_true aS
 have q14 : x1_7 < (a0.size : Int):=of_decide_eq_true aS
 have hx14:=bt_at a0 x1_7
 replace p14:=eq_true p14
 replace q14:=eq_true q14
 go_upto_block 1 with (fail)
 go_cut [8] (fun v8 wc => ∃ (kq : Nat) (x8_21 : Int),v8 = .int .i64 x8_21 ∧ Aside0 (sr06_next.j3 kq a0 x1_7 x7_2 x8_21 = some (r1,r2,r3,r4)) ∧ Aside0 (kq ≤ kj7) ∧ Aside0 (wc.heap[gb101]? = some (.cells #[.int .i64 0,.string (⟨#[]⟩ : ByteArray)] 102 (0,0))) ∧ Aside0 (Below w.heap.size w wc))
 case first =>
  have H:=HC22.out
  clear HC22
  have H':=aq H
  clear H
  go_wp2
  go_loopg [8] kj7 (fun kq v8 w' => ∃ (x8_3 : Int),v8 = .int .i64 x8_3 ∧ Aside0 (sr06_next.l0 kq a0 x1_7 x7_2 x8_3 = some (r1,r2,r3,r4)) ∧ Aside0 (kq ≤ kj7) ∧ Aside0 (w'.heap[gb101]? = some (.cells #[.int .i64 0,.string (⟨#[]⟩ : ByteArray)] 102 (0,0))) ∧ Aside0 (Below w.heap.size w w'))
  case atStart => exact ⟨(x1_7),eS,H',⟨Nat.le_refl _⟩,⟨KU BK101.out⟩,⟨bH⟩⟩
  case round =>
  clear H'
  (try clear c10);(try clear c10b0);(try clear c12);(try clear c12b0);(try clear c13);(try clear c13b0);(try clear p14);(try clear q14);(try clear hx14);(try clear c15);(try clear c15b0);(try clear c15b1);(try clear c17);(try clear c17b0);(try clear c17b1);(try clear c21);(try clear c21b0);(try clear c21b1);(try clear p14);(try clear q14)
  obtain ⟨x8_3,rfl,HA,HK3,BK101,HB⟩:=hrel
  cases gk with
  | zero => exact absurd HA.out (by simp [sr06_next.l0])
  | succ k3 =>
  have H:=HA.out
  clear HA
  simp only [sr06_next.l0] at H
  by_cases c23 : x8_3 < (a0.size : Int)
  rotate_left
  · rw [if_neg c23] at H
    have c23b0 : decide (x8_3 < (a0.size : Int)) = false:=decide_eq_false c23
    clear c23
    (first|rw [c23b0]|rw [c23b1]|(simp only [i64_w,i32_w];rw [c23b0])|skip)
    have H':=aq H
    clear H
    go_wp2
    go_meet
    case rel => exact ⟨_,(x8_3),eS,H',⟨by have:=HJ2.out;have:=HJ7.out;have:=HK3.out;first|omega|exact Nat.le_refl _⟩,⟨KU BK101.out⟩,⟨bH⟩⟩
  rw [if_pos c23] at H
  have c23b0 : decide (x8_3 < (a0.size : Int)) = true:=decide_eq_true c23
  clear c23
  (first|rw [c23b0]|rw [c23b1]|(simp only [i64_w,i32_w];rw [c23b0])|skip)
  by_cases c24 : 0 ≤ x8_3
  rotate_left
  · rw [if_neg c24] at H
    exact absurd H (by simp)
  rw [if_pos c24] at H
  have c24b0 : decide (0 ≤ x8_3) = true:=decide_eq_true c24
  clear c24
  by_cases c26 : (bt a0 x8_3) = 59
  · rw [if_pos c26] at H
    have c26b0 : ((bt a0 x8_3) == 59) = true:=beq_iff_eq.mpr c26
    have c26b1 : ((bt a0 x8_3) != 59) = false:=bne_eq_false_iff_eq.mpr c26
    clear c26
    have H':=aq H
    clear H
    have p25 : 0 ≤ (x8_3 : Int):=of_decide_eq_true aS
    have q25 : x8_3 < (a0.size : Int):=of_decide_eq_true aS
    have hx25:=bt_at a0 x8_3
    replace p25:=eq_true p25
    replace q25:=eq_true q25
    go_wp2
    go_meet
    case rel => exact ⟨_,(x8_3),eS,H',⟨by have:=HJ2.out;have:=HJ7.out;have:=HK3.out;first|omega|exact Nat.le_refl _⟩,⟨KU BK101.out⟩,⟨bH⟩⟩
  rw [if_neg c26] at H
  have c26b0 : ((bt a0 x8_3) == 59) = false:=beq_eq_false_iff_ne.mpr c26
  have c26b1 : ((bt a0 x8_3) != 59) = true:=bne_iff_ne.mpr c26
  have H':=aq H
  clear H
  have p25 : 0 ≤ (x8_3 : Int):=of_decide_eq_true aS
  have q25 : x8_3 < (a0.size : Int):=of_decide_eq_true aS
  have hx25:=bt_at a0 x8_3
  replace p25:=eq_true p25
  replace q25:=eq_true q25
  go_wp2
  go_roundg k3
  case measure => have:=HJ2.out;have:=HJ7.out;have:=HK3.out;omega
  case rel => exact ⟨(wrap64 (x8_3 + 1)),eS,H',⟨by have:=HJ2.out;have:=HJ7.out;have:=HK3.out;omega⟩,⟨KU BK101.out⟩,⟨bH⟩⟩
 case rest =>
 clear HC22
 (try clear c10);(try clear c10b0);(try clear c12);(try clear c12b0);(try clear c13);(try clear c13b0);(try clear p14);(try clear q14);(try clear hx14);(try clear c15);(try clear c15b0);(try clear c15b1);(try clear c17);(try clear c17b0);(try clear c17b1);(try clear c21);(try clear c21b0);(try clear c21b1);(try clear p14);(try clear q14)
 obtain ⟨kq,x8_21,rfl,HA,HJ21,BK101,HB⟩:=hcut
 cases kq with
 | zero => exact absurd HA.out (by simp [sr06_next.j3])
 | succ kj21 =>
 have H:=HA.out
 clear HA
 simp only [sr06_next.j3] at H
 have HC27:=aq H
 clear H
 go_upto_region 18 with (fail)
 go_cut [75] (fun v75 wc => ∃ (kq : Nat) (x75_26 : Bool),v75 = .bool x75_26 ∧ Aside0 (sr06_next.j4 kq a0 x1_7 x7_2 x8_21 x75_26 = some (r1,r2,r3,r4)) ∧ Aside0 (kq ≤ kj21) ∧ Aside0 (wc.heap[gb101]? = some (.cells #[.int .i64 0,.string (⟨#[]⟩ : ByteArray)] 102 (0,0))) ∧ Aside0 (Below w.heap.size w wc))
 case first =>
  have H:=HC27.out
  clear HC27
  by_cases c28 : x8_21 ≥ (a0.size : Int)
  · rw [if_pos c28] at H
    have c28b0 : decide ((a0.size : Int) ≤ x8_21) = true:=decide_eq_true c28
    clear c28
    (first|rw [c28b0]|rw [c28b1]|(simp only [i64_w,i32_w];rw [c28b0])|skip)
    have H':=aq H
    clear H
    go_wp2
    go_meet
    case rel => exact ⟨_,(true),eS,H',⟨by have:=HJ2.out;have:=HJ7.out;have:=HJ21.out;first|omega|exact Nat.le_refl _⟩,⟨KU BK101.out⟩,⟨bH⟩⟩
  rw [if_neg c28] at H
  have c28b0 : decide ((a0.size : Int) ≤ x8_21) = false:=decide_eq_false c28
  clear c28
  (first|rw [c28b0]|rw [c28b1]|(simp only [i64_w,i32_w];rw [c28b0])|skip)
  obtain ⟨ji29,hji29⟩ : ∃ j_ : Int,(wrap64 (x1_7 + 1)) = j_:=⟨_,rfl⟩
  replace H : (if 0 ≤ (ji29) then (if (ji29) ≤ x8_21 then (if x8_21 ≤ (a0.size : Int) then ((sr04_Class.f (a0.extract ((ji29) : Int).toNat (x8_21 : Int).toNat)).bind fun t102 => (sr06_next.j4 kj21 a0 x1_7 x7_2 x8_21 (!t102))) else (none)) else (none)) else (none)) = some (r1,r2,r3,r4):=by first|(rw [hji29] at H;exact H)|(simp only [hji29] at H ⊢;exact H)
  have hji29w : (IntKind.i64.wrap (x1_7 + 1)) = ji29:=(i64_w _).trans hji29
  by_cases c30 : 0 ≤ (ji29)
  rotate_left
  · rw [if_neg c30] at H
    exact absurd H (by simp)
  rw [if_pos c30] at H
  have c30b0:=eq_true c30
  have c30b1 : decide (0 ≤ (ji29)) = true:=decide_eq_true c30
  clear c30
  by_cases c31 : (ji29) ≤ x8_21
  rotate_left
  · rw [if_neg c31] at H
    exact absurd H (by simp)
  rw [if_pos c31] at H
  have c31b0:=eq_true c31
  have c31b1 : decide ((ji29) ≤ x8_21) = true:=decide_eq_true c31
  clear c31
  by_cases c32 : x8_21 ≤ (a0.size : Int)
  rotate_left
  · rw [if_neg c32] at H
    exact absurd H (by simp)
  rw [if_pos c32] at H
  have c32b0:=eq_true c32
  have c32b1 : decide (x8_21 ≤ (a0.size : Int)) = true:=decide_eq_true c32
  clear c32
  replace H:=Option.bind_eq_some_iff.mp H
  obtain ⟨t102,A330,H⟩:=H
  have A33:=aq A330
  clear A330
  have H':=aq H
  clear H
  go_wp2_with (first|(go_at_call 58;(with_reducible refine (sr04_Class.calls (a0.extract ((ji29) : Int).toNat (x8_21 : Int).toNat) t102 _ A33.out).mono ?_);rintro e w' ⟨rfl,⟨nd,rfl⟩⟩))
  go_meet
  case rel => exact ⟨_,(!t102),eS,H',⟨by have:=HJ2.out;have:=HJ7.out;have:=HJ21.out;first|omega|exact Nat.le_refl _⟩,⟨KU BK101.out⟩,⟨bH⟩⟩
 case rest =>
 clear HC27
 (try clear c10);(try clear c10b0);(try clear c12);(try clear c12b0);(try clear c13);(try clear c13b0);(try clear p14);(try clear q14);(try clear hx14);(try clear c15);(try clear c15b0);(try clear c15b1);(try clear c17);(try clear c17b0);(try clear c17b1);(try clear c21);(try clear c21b0);(try clear c21b1);(try clear p14);(try clear q14)
 obtain ⟨kq,x75_26,rfl,HA,HJ26,BK101,HB⟩:=hcut
 cases kq with
 | zero => exact absurd HA.out (by simp [sr06_next.j4])
 | succ kj26 =>
 have H:=HA.out
 clear HA
 simp only [sr06_next.j4] at H
 by_cases c34 : x75_26 = true
 · subst c34
   have H1 : (some (0,(⟨#[]⟩ : ByteArray),0,false)) = some (r1,r2,r3,r4):=by rw [if_pos rfl] at H;exact H
   clear H
   have H:=H1
   clear H1
   simp only [Option.some.injEq,Prod.mk.injEq] at H
   obtain ⟨rfl,rfl,rfl,rfl⟩:=H
   have hcz35_0 : wc.cell? ⟨gb101,0,none⟩ = some (.int .i64 0):=(blk_cell BK101.out 0).trans rfl
   have hcz35_1 : wc.cell? ⟨gb101,1,none⟩ = some (.string (⟨#[]⟩ : ByteArray)):=(blk_cell BK101.out 1).trans rfl
   have hfz35_0:=blk_frozen BK101.out 0
   have hfz35_1:=blk_frozen BK101.out 1
   go_wp2
   refine bodyPost_ret (results_ctt rfl _ _ gb101 102 #[.int .i64 0,.string (⟨#[]⟩ : ByteArray)] (0,0) _ rfl (by refine KU ?_;refine blk_put (cs:=#[.int .i64 0,.string (⟨#[]⟩ : ByteArray)]) ?_ 1 _ rfl;refine KU ?_;refine blk_put (cs:=#[.int .i64 0,.string (⟨#[]⟩ : ByteArray)]) ?_ 0 _ rfl;refine KU ?_;exact BK101.out) Tryz.underlying102 rfl (by kernel_rfl)) rfl ?_
   exact ⟨eR,bH⟩
 replace c34:=Bool.eq_false_iff.mpr c34
 subst c34
 have H1 : (if 0 ≤ (wrap64 (x1_7 + 1)) then (if (wrap64 (x1_7 + 1)) ≤ x8_21 then (if x8_21 ≤ (a0.size : Int) then (if x7_2 = true then (some (5,a0.extract ((wrap64 (x1_7 + 1)) : Int).toNat (x8_21 : Int).toNat,wrap64 (x8_21 + 1),true)) else (some (3,a0.extract ((wrap64 (x1_7 + 1)) : Int).toNat (x8_21 : Int).toNat,wrap64 (x8_21 + 1),true))) else (none)) else (none)) else (none)) = some (r1,r2,r3,r4):=by rw [if_neg (show ¬ (false = true) by decide)] at H;exact H
 clear H
 have H:=H1
 clear H1
 obtain ⟨ji36,hji36⟩ : ∃ j_ : Int,(wrap64 (x1_7 + 1)) = j_:=⟨_,rfl⟩
 replace H : (if 0 ≤ (ji36) then (if (ji36) ≤ x8_21 then (if x8_21 ≤ (a0.size : Int) then (if x7_2 = true then (some (5,a0.extract ((ji36) : Int).toNat (x8_21 : Int).toNat,wrap64 (x8_21 + 1),true)) else (some (3,a0.extract ((ji36) : Int).toNat (x8_21 : Int).toNat,wrap64 (x8_21 + 1),true))) else (none)) else (none)) else (none)) = some (r1,r2,r3,r4):=by first|(rw [hji36] at H;exact H)|(simp only [hji36] at H ⊢;exact H)
 have hji36w : (IntKind.i64.wrap (x1_7 + 1)) = ji36:=(i64_w _).trans hji36
 by_cases c37 : 0 ≤ (ji36)
 rotate_left
 · rw [if_neg c37] at H
   exact absurd H (by simp)
 rw [if_pos c37] at H
 have c37b0:=eq_true c37
 have c37b1 : decide (0 ≤ (ji36)) = true:=decide_eq_true c37
 clear c37
 by_cases c38 : (ji36) ≤ x8_21
 rotate_left
 · rw [if_neg c38] at H
   exact absurd H (by simp)
 rw [if_pos c38] at H
 have c38b0:=eq_true c38
 have c38b1 : decide ((ji36) ≤ x8_21) = true:=decide_eq_true c38
 clear c38
 by_cases c39 : x8_21 ≤ (a0.size : Int)
 rotate_left
 · rw [if_neg c39] at H
   exact absurd H (by simp)
 rw [if_pos c39] at H
 have c39b0:=eq_true c39
 have c39b1 : decide (x8_21 ≤ (a0.size : Int)) = true:=decide_eq_true c39
 clear c39
 by_cases c40 : x7_2 = true
 · subst c40
   have H1 : (some (5,a0.extract ((ji36) : Int).toNat (x8_21 : Int).toNat,wrap64 (x8_21 + 1),true)) = some (r1,r2,r3,r4):=by rw [if_pos rfl] at H;exact H
   clear H
   have H:=H1
   clear H1
   simp only [Option.some.injEq,Prod.mk.injEq] at H
   obtain ⟨rfl,rfl,rfl,rfl⟩:=H
   go_wp2_with (first|((with_reducible refine gate_dst (N:=9) rfl ?_);refine box_event rfl (N:=9) rfl (cs:=#[.int .i64 0,.string (⟨#[]⟩ : ByteArray)]) (t:=102) gS ?_;intro gb103 hg w41 hbox hb;have BK103:=aq (hbox);have GE103:=aq ((GN hg : w.heap.size ≤ gb103));have NB101_103:=aq ((by rw [hg];exact Nat.ne_of_lt (blk_lt (g:=gb101) (o:=.cells #[.int .i64 0,.string (⟨#[]⟩ : ByteArray)] 102 (0,0)) (KU BK101.out)) : gb101 ≠ gb103));have NB103_101:=aq ((by rw [hg];exact Nat.ne_of_gt (blk_lt (g:=gb101) (o:=.cells #[.int .i64 0,.string (⟨#[]⟩ : ByteArray)] 102 (0,0)) (KU BK101.out)) : gb103 ≠ gb101));replace BK101:=aq (blk_below (g:=gb101) (o:=.cells #[.int .i64 0,.string (⟨#[]⟩ : ByteArray)] 102 (0,0)) (KU BK101.out) hb);replace HB:=aq (below_step bH hb);clear hb hbox hg;have hnb42:=NB103_101.out;have hnc42:=NB101_103.out;have hcz43_0 : w41.cell? ⟨gb103,0,none⟩ = some (.int .i64 0):=(blk_cell BK103.out 0).trans rfl;have hcz43_1 : w41.cell? ⟨gb103,1,none⟩ = some (.string (⟨#[]⟩ : ByteArray)):=(blk_cell BK103.out 1).trans rfl;have hfz43_0:=blk_frozen BK103.out 0;have hfz43_1:=blk_frozen BK103.out 1;have hcz44_0 : w41.cell? ⟨gb101,0,none⟩ = some (.int .i64 0):=(blk_cell BK101.out 0).trans rfl;have hcz44_1 : w41.cell? ⟨gb101,1,none⟩ = some (.string (⟨#[]⟩ : ByteArray)):=(blk_cell BK101.out 1).trans rfl;have hfz44_0:=blk_frozen BK101.out 0;have hfz44_1:=blk_frozen BK101.out 1))
   refine bodyPost_ret (results_ctt rfl _ _ gb101 102 #[.int .i64 5,.string (a0.extract ((ji36) : Int).toNat (x8_21 : Int).toNat)] (0,0) _ rfl (by refine KU ?_;refine blk_put (cs:=#[.int .i64 5,.string (⟨#[]⟩ : ByteArray)]) ?_ 1 _ rfl;refine KU ?_;refine blk_put (cs:=#[.int .i64 0,.string (⟨#[]⟩ : ByteArray)]) ?_ 0 _ rfl;refine KU ?_;refine blk_far ?_ NB101_103.out _;refine KU ?_;refine blk_far ?_ NB101_103.out _;refine KU ?_;refine blk_far ?_ NB101_103.out _;refine KU ?_;exact BK101.out) Tryz.underlying102 rfl (by kernel_rfl)) rfl ?_
   exact ⟨by first|rfl|(simp [errW_none,errW_some] <;> rfl)|(simp only [← hji36];first|rfl|(simp [errW_none,errW_some] <;> rfl))|(simp [*,errW_none,errW_some] <;> rfl),bH⟩
 replace c40:=Bool.eq_false_iff.mpr c40
 subst c40
 have H1 : (some (3,a0.extract ((ji36) : Int).toNat (x8_21 : Int).toNat,wrap64 (x8_21 + 1),true)) = some (r1,r2,r3,r4):=by rw [if_neg (show ¬ (false = true) by decide)] at H;exact H
 clear H
 have H:=H1
 clear H1
 simp only [Option.some.injEq,Prod.mk.injEq] at H
 obtain ⟨rfl,rfl,rfl,rfl⟩:=H
 go_wp2_with (first|((with_reducible refine gate_dst (N:=9) rfl ?_);refine box_event rfl (N:=9) rfl (cs:=#[.int .i64 0,.string (⟨#[]⟩ : ByteArray)]) (t:=102) gS ?_;intro gb103 hg w45 hbox hb;have BK103:=aq (hbox);have GE103:=aq ((GN hg : w.heap.size ≤ gb103));have NB101_103:=aq ((by rw [hg];exact Nat.ne_of_lt (blk_lt (g:=gb101) (o:=.cells #[.int .i64 0,.string (⟨#[]⟩ : ByteArray)] 102 (0,0)) (KU BK101.out)) : gb101 ≠ gb103));have NB103_101:=aq ((by rw [hg];exact Nat.ne_of_gt (blk_lt (g:=gb101) (o:=.cells #[.int .i64 0,.string (⟨#[]⟩ : ByteArray)] 102 (0,0)) (KU BK101.out)) : gb103 ≠ gb101));replace BK101:=aq (blk_below (g:=gb101) (o:=.cells #[.int .i64 0,.string (⟨#[]⟩ : ByteArray)] 102 (0,0)) (KU BK101.out) hb);replace HB:=aq (below_step bH hb);clear hb hbox hg;have hnb46:=NB103_101.out;have hnc46:=NB101_103.out;have hcz47_0 : w45.cell? ⟨gb103,0,none⟩ = some (.int .i64 0):=(blk_cell BK103.out 0).trans rfl;have hcz47_1 : w45.cell? ⟨gb103,1,none⟩ = some (.string (⟨#[]⟩ : ByteArray)):=(blk_cell BK103.out 1).trans rfl;have hfz47_0:=blk_frozen BK103.out 0;have hfz47_1:=blk_frozen BK103.out 1;have hcz48_0 : w45.cell? ⟨gb101,0,none⟩ = some (.int .i64 0):=(blk_cell BK101.out 0).trans rfl;have hcz48_1 : w45.cell? ⟨gb101,1,none⟩ = some (.string (⟨#[]⟩ : ByteArray)):=(blk_cell BK101.out 1).trans rfl;have hfz48_0:=blk_frozen BK101.out 0;have hfz48_1:=blk_frozen BK101.out 1))
 refine bodyPost_ret (results_ctt rfl _ _ gb101 102 #[.int .i64 3,.string (a0.extract ((ji36) : Int).toNat (x8_21 : Int).toNat)] (0,0) _ rfl (by refine KU ?_;refine blk_put (cs:=#[.int .i64 3,.string (⟨#[]⟩ : ByteArray)]) ?_ 1 _ rfl;refine KU ?_;refine blk_put (cs:=#[.int .i64 0,.string (⟨#[]⟩ : ByteArray)]) ?_ 0 _ rfl;refine KU ?_;refine blk_far ?_ NB101_103.out _;refine KU ?_;refine blk_far ?_ NB101_103.out _;refine KU ?_;exact BK101.out) Tryz.underlying102 rfl (by kernel_rfl)) rfl ?_
 exact ⟨by first|rfl|(simp [errW_none,errW_some] <;> rfl)|(simp only [← hji36];first|rfl|(simp [errW_none,errW_some] <;> rfl))|(simp [*,errW_none,errW_some] <;> rfl),bH⟩
def sr06_Parse.f (k : Nat) (a0 : ByteArray) : Option (Int × ByteArray × Int) := (sr06_next.f k a0 0).bind fun bt105 => (if bt105.2.2.2 = true then (if bt105.2.2.1 = (a0.size : Int) then (some (bt105.1, bt105.2.1, 0)) else (some (0, (⟨#[]⟩ : ByteArray), 1))) else (some (0, (⟨#[]⟩ : ByteArray), 1)))
theorem sr06_Parse.calls (k : Nat) (a0 : ByteArray) (r1 : Int) (r2 : ByteArray) (r3 : Int) (w : World) (h : sr06_Parse.f k a0 = some (r1, r2, r3)) :
    Calls Tryz.prog 108 #[.string a0] w fun e w' => e = .returned (.tuple #[.agg #[.int .i64 r1,.string r2],.int .i64 r3]) ∧ Below w.heap.size w w':=by
 have hu102:=Tryz.underlying102
 have HB:=aq (Below.refl w.heap.size w)
 have H : ((sr06_next.f k a0 0).bind fun bt105 => (if bt105.2.2.2 = true then (if bt105.2.2.1 = (a0.size : Int) then (some (bt105.1,bt105.2.1,0)) else (some (0,(⟨#[]⟩ : ByteArray),1))) else (some (0,(⟨#[]⟩ : ByteArray),1)))) = some (r1,r2,r3):=h
 clear h
 replace H:=Option.bind_eq_some_iff.mp H
 obtain ⟨⟨t105,t106,t107,t108⟩,A20,H⟩:=H
 replace H : (if t108 = true then (if t107 = (a0.size : Int) then (some (t105,t106,0)) else (some (0,(⟨#[]⟩ : ByteArray),1))) else (some (0,(⟨#[]⟩ : ByteArray),1))) = some (r1,r2,r3):=H
 have A2:=aq A20
 clear A20
 by_cases c3 : t108 = true
 rotate_left
 · replace c3:=Bool.eq_false_iff.mpr c3
   subst c3
   have H1 : (some (0,(⟨#[]⟩ : ByteArray),1)) = some (r1,r2,r3):=by rw [if_neg (show ¬ (false = true) by decide)] at H;exact H
   clear H
   have H:=H1
   clear H1
   simp only [Option.some.injEq,Prod.mk.injEq] at H
   obtain ⟨rfl,rfl,rfl⟩:=H
   go_enter Tryz.func108,Tryz.ntmps108
   go_wp2_with (first|((with_reducible refine gate_dst (N:=2) rfl ?_);(try (refine gate_guard (by rfl) ?_;dsimp only));refine box_event rfl (N:=2) rfl (cs:=#[.int .i64 0,.string (⟨#[]⟩ : ByteArray)]) (t:=102) gS ?_;intro gb104 hg w17 hbox hb;have BK104:=aq (hbox);have GE104:=aq ((GN hg : w.heap.size ≤ gb104));replace HB:=aq (below_step bH hb);clear hb hbox hg)|((with_reducible refine gate_callee (f:=107) rfl ?_);refine goesL_ (some 9) rfl rfl Tryz.func107 (by kernel_rfl) rfl #[.string a0,.int .i64 0] rfl eA ?_;(with_reducible refine (sr06_next.calls k a0 0 t105 t106 t107 false _ A2.out).mono ?_);rintro e w18 ⟨rfl,hb⟩;refine ⟨_,rfl,?_⟩;replace BK104:=aq (blk_below (g:=gb104) (o:=.cells #[.int .i64 0,.string (⟨#[]⟩ : ByteArray)] 102 (0,0)) (KU BK104.out) hb);replace HB:=aq (below_step bH hb);(try clear hb);(try clear hb2);(try clear hk);(try clear hi))|((with_reducible refine gate_dst (N:=4) rfl ?_);(try (refine gate_guard (by rfl) ?_;dsimp only));refine box_event rfl (N:=4) rfl (cs:=#[.int .i64 0,.string (⟨#[]⟩ : ByteArray)]) (t:=102) gS ?_;intro gb109 hg w19 hbox hb;have BK109:=aq (hbox);have GE109:=aq ((GN hg : w.heap.size ≤ gb109));have NB104_109:=aq ((by rw [hg];exact Nat.ne_of_lt (blk_lt (g:=gb104) (o:=.cells #[.int .i64 0,.string (⟨#[]⟩ : ByteArray)] 102 (0,0)) (KU BK104.out)) : gb104 ≠ gb109));have NB109_104:=aq ((by rw [hg];exact Nat.ne_of_gt (blk_lt (g:=gb104) (o:=.cells #[.int .i64 0,.string (⟨#[]⟩ : ByteArray)] 102 (0,0)) (KU BK104.out)) : gb109 ≠ gb104));replace BK104:=aq (blk_below (g:=gb104) (o:=.cells #[.int .i64 0,.string (⟨#[]⟩ : ByteArray)] 102 (0,0)) (KU BK104.out) hb);replace HB:=aq (below_step bH hb);clear hb hbox hg;have hnb20:=NB109_104.out;have hnc20:=NB104_109.out;have hcz21_0 : w19.cell? ⟨gb109,0,none⟩ = some (.int .i64 0):=(blk_cell BK109.out 0).trans rfl;have hcz21_1 : w19.cell? ⟨gb109,1,none⟩ = some (.string (⟨#[]⟩ : ByteArray)):=(blk_cell BK109.out 1).trans rfl;have hfz21_0:=blk_frozen BK109.out 0;have hfz21_1:=blk_frozen BK109.out 1;have hcz22_0 : w19.cell? ⟨gb104,0,none⟩ = some (.int .i64 0):=(blk_cell BK104.out 0).trans rfl;have hcz22_1 : w19.cell? ⟨gb104,1,none⟩ = some (.string (⟨#[]⟩ : ByteArray)):=(blk_cell BK104.out 1).trans rfl;have hfz22_0:=blk_frozen BK104.out 0;have hfz22_1:=blk_frozen BK104.out 1))
   refine bodyPost_ret (results_ct rfl _ _ gb104 102 #[.int .i64 0,.string (⟨#[]⟩ : ByteArray)] (0,0) _ rfl (by refine KU ?_;refine blk_put (cs:=#[.int .i64 0,.string (⟨#[]⟩ : ByteArray)]) ?_ 1 _ rfl;refine KU ?_;refine blk_put (cs:=#[.int .i64 0,.string (⟨#[]⟩ : ByteArray)]) ?_ 0 _ rfl;refine KU ?_;refine blk_far ?_ NB104_109.out _;refine KU ?_;refine blk_far ?_ NB104_109.out _;refine KU ?_;exact BK104.out) Tryz.underlying102 rfl (by kernel_rfl)) rfl ?_
   exact ⟨eR,bH⟩
 subst c3
 have H1 : (if t107 = (a0.size : Int) then (some (t105,t106,0)) else (some (0,(⟨#[]⟩ : ByteArray),1))) = some (r1,r2,r3):=by rw [if_pos rfl] at H;exact H
 clear H
 have H:=H1
 clear H1
 by_cases c4 : t107 = (a0.size : Int)
 · rw [if_pos c4] at H
   have c4b0 : (t107 == (a0.size : Int)) = true:=beq_iff_eq.mpr c4
   have c4b1 : (t107 != (a0.size : Int)) = false:=bne_eq_false_iff_eq.mpr c4
   clear c4
   simp only [Option.some.injEq,Prod.mk.injEq] at H
   obtain ⟨rfl,rfl,rfl⟩:=H
   go_enter Tryz.func108,Tryz.ntmps108
   go_wp2_with (first|((with_reducible refine gate_dst (N:=2) rfl ?_);(try (refine gate_guard (by rfl) ?_;dsimp only));refine box_event rfl (N:=2) rfl (cs:=#[.int .i64 0,.string (⟨#[]⟩ : ByteArray)]) (t:=102) gS ?_;intro gb104 hg w5 hbox hb;have BK104:=aq (hbox);have GE104:=aq ((GN hg : w.heap.size ≤ gb104));replace HB:=aq (below_step bH hb);clear hb hbox hg)|((with_reducible refine gate_callee (f:=107) rfl ?_);refine goesL_ (some 9) rfl rfl Tryz.func107 (by kernel_rfl) rfl #[.string a0,.int .i64 0] rfl eA ?_;(with_reducible refine (sr06_next.calls k a0 0 t105 t106 t107 true _ A2.out).mono ?_);rintro e w6 ⟨rfl,hb⟩;refine ⟨_,rfl,?_⟩;replace BK104:=aq (blk_below (g:=gb104) (o:=.cells #[.int .i64 0,.string (⟨#[]⟩ : ByteArray)] 102 (0,0)) (KU BK104.out) hb);replace HB:=aq (below_step bH hb);(try clear hb);(try clear hb2);(try clear hk);(try clear hi))|((with_reducible refine gate_dst (N:=4) rfl ?_);(try (refine gate_guard (by rfl) ?_;dsimp only));refine box_event rfl (N:=4) rfl (cs:=#[.int .i64 0,.string (⟨#[]⟩ : ByteArray)]) (t:=102) gS ?_;intro gb109 hg w7 hbox hb;have BK109:=aq (hbox);have GE109:=aq ((GN hg : w.heap.size ≤ gb109));have NB104_109:=aq ((by rw [hg];exact Nat.ne_of_lt (blk_lt (g:=gb104) (o:=.cells #[.int .i64 0,.string (⟨#[]⟩ : ByteArray)] 102 (0,0)) (KU BK104.out)) : gb104 ≠ gb109));have NB109_104:=aq ((by rw [hg];exact Nat.ne_of_gt (blk_lt (g:=gb104) (o:=.cells #[.int .i64 0,.string (⟨#[]⟩ : ByteArray)] 102 (0,0)) (KU BK104.out)) : gb109 ≠ gb104));replace BK104:=aq (blk_below (g:=gb104) (o:=.cells #[.int .i64 0,.string (⟨#[]⟩ : ByteArray)] 102 (0,0)) (KU BK104.out) hb);replace HB:=aq (below_step bH hb);clear hb hbox hg;have hnb8:=NB109_104.out;have hnc8:=NB104_109.out;have hcz9_0 : w7.cell? ⟨gb109,0,none⟩ = some (.int .i64 0):=(blk_cell BK109.out 0).trans rfl;have hcz9_1 : w7.cell? ⟨gb109,1,none⟩ = some (.string (⟨#[]⟩ : ByteArray)):=(blk_cell BK109.out 1).trans rfl;have hfz9_0:=blk_frozen BK109.out 0;have hfz9_1:=blk_frozen BK109.out 1;have hcz10_0 : w7.cell? ⟨gb104,0,none⟩ = some (.int .i64 0):=(blk_cell BK104.out 0).trans rfl;have hcz10_1 : w7.cell? ⟨gb104,1,none⟩ = some (.string (⟨#[]⟩ : ByteArray)):=(blk_cell BK104.out 1).trans rfl;have hfz10_0:=blk_frozen BK104.out 0;have hfz10_1:=blk_frozen BK104.out 1))
   refine bodyPost_ret (results_ct rfl _ _ gb104 102 #[.int .i64 t105,.string t106] (0,0) _ rfl (by refine KU ?_;refine blk_put (cs:=#[.int .i64 t105,.string (⟨#[]⟩ : ByteArray)]) ?_ 1 _ rfl;refine KU ?_;refine blk_put (cs:=#[.int .i64 0,.string (⟨#[]⟩ : ByteArray)]) ?_ 0 _ rfl;refine KU ?_;refine blk_far ?_ NB104_109.out _;refine KU ?_;refine blk_far ?_ NB104_109.out _;refine KU ?_;exact BK104.out) Tryz.underlying102 rfl (by kernel_rfl)) rfl ?_
   exact ⟨eR,bH⟩
 rw [if_neg c4] at H
 have c4b0 : (t107 == (a0.size : Int)) = false:=beq_eq_false_iff_ne.mpr c4
 have c4b1 : (t107 != (a0.size : Int)) = true:=bne_iff_ne.mpr c4
 simp only [Option.some.injEq,Prod.mk.injEq] at H
 obtain ⟨rfl,rfl,rfl⟩:=H
 go_enter Tryz.func108,Tryz.ntmps108
 go_wp2_with (first|((with_reducible refine gate_dst (N:=2) rfl ?_);(try (refine gate_guard (by rfl) ?_;dsimp only));refine box_event rfl (N:=2) rfl (cs:=#[.int .i64 0,.string (⟨#[]⟩ : ByteArray)]) (t:=102) gS ?_;intro gb104 hg w11 hbox hb;have BK104:=aq (hbox);have GE104:=aq ((GN hg : w.heap.size ≤ gb104));replace HB:=aq (below_step bH hb);clear hb hbox hg)|((with_reducible refine gate_callee (f:=107) rfl ?_);refine goesL_ (some 9) rfl rfl Tryz.func107 (by kernel_rfl) rfl #[.string a0,.int .i64 0] rfl eA ?_;(with_reducible refine (sr06_next.calls k a0 0 t105 t106 t107 true _ A2.out).mono ?_);rintro e w12 ⟨rfl,hb⟩;refine ⟨_,rfl,?_⟩;replace BK104:=aq (blk_below (g:=gb104) (o:=.cells #[.int .i64 0,.string (⟨#[]⟩ : ByteArray)] 102 (0,0)) (KU BK104.out) hb);replace HB:=aq (below_step bH hb);(try clear hb);(try clear hb2);(try clear hk);(try clear hi))|((with_reducible refine gate_dst (N:=4) rfl ?_);(try (refine gate_guard (by rfl) ?_;dsimp only));refine box_event rfl (N:=4) rfl (cs:=#[.int .i64 0,.string (⟨#[]⟩ : ByteArray)]) (t:=102) gS ?_;intro gb109 hg w13 hbox hb;have BK109:=aq (hbox);have GE109:=aq ((GN hg : w.heap.size ≤ gb109));have NB104_109:=aq ((by rw [hg];exact Nat.ne_of_lt (blk_lt (g:=gb104) (o:=.cells #[.int .i64 0,.string (⟨#[]⟩ : ByteArray)] 102 (0,0)) (KU BK104.out)) : gb104 ≠ gb109));have NB109_104:=aq ((by rw [hg];exact Nat.ne_of_gt (blk_lt (g:=gb104) (o:=.cells #[.int .i64 0,.string (⟨#[]⟩ : ByteArray)] 102 (0,0)) (KU BK104.out)) : gb109 ≠ gb104));replace BK104:=aq (blk_below (g:=gb104) (o:=.cells #[.int .i64 0,.string (⟨#[]⟩ : ByteArray)] 102 (0,0)) (KU BK104.out) hb);replace HB:=aq (below_step bH hb);clear hb hbox hg;have hnb14:=NB109_104.out;have hnc14:=NB104_109.out;have hcz15_0 : w13.cell? ⟨gb109,0,none⟩ = some (.int .i64 0):=(blk_cell BK109.out 0).trans rfl;have hcz15_1 : w13.cell? ⟨gb109,1,none⟩ = some (.string (⟨#[]⟩ : ByteArray)):=(blk_cell BK109.out 1).trans rfl;have hfz15_0:=blk_frozen BK109.out 0;have hfz15_1:=blk_frozen BK109.out 1;have hcz16_0 : w13.cell? ⟨gb104,0,none⟩ = some (.int .i64 0):=(blk_cell BK104.out 0).trans rfl;have hcz16_1 : w13.cell? ⟨gb104,1,none⟩ = some (.string (⟨#[]⟩ : ByteArray)):=(blk_cell BK104.out 1).trans rfl;have hfz16_0:=blk_frozen BK104.out 0;have hfz16_1:=blk_frozen BK104.out 1))
 refine bodyPost_ret (results_ct rfl _ _ gb104 102 #[.int .i64 0,.string (⟨#[]⟩ : ByteArray)] (0,0) _ rfl (by refine KU ?_;refine blk_put (cs:=#[.int .i64 0,.string (⟨#[]⟩ : ByteArray)]) ?_ 1 _ rfl;refine KU ?_;refine blk_put (cs:=#[.int .i64 0,.string (⟨#[]⟩ : ByteArray)]) ?_ 0 _ rfl;refine KU ?_;refine blk_far ?_ NB104_109.out _;refine KU ?_;refine blk_far ?_ NB104_109.out _;refine KU ?_;exact BK104.out) Tryz.underlying102 rfl (by kernel_rfl)) rfl ?_
 exact ⟨eR,bH⟩
mutual
def sr06_RenamedType.l0 : Nat → List (S23) → Int → Int → ByteArray → Option (Int × ByteArray)
  | 0,_,_,_,_ => none
  | k + 1,x1,x5,x124000,x124001 => if x5 < (x1.length : Int) then (if x124000 = 3 then (sr06_RenamedType.j1 k x1 x5 true x124000 x124001) else (sr06_RenamedType.j1 k x1 x5 (x124000 == 5) x124000 x124001)) else (sr06_RenamedType.j1 k x1 x5 false x124000 x124001)
def sr06_RenamedType.j1 : Nat → List (S23) → Int → Bool → Int → ByteArray → Option (Int × ByteArray)
  | 0,_,_,_,_,_ => none
  | k + 1,x1,x5,x19,x124000,x124001 => if x19 = true then (if 0 ≤ x5 then (if x5 < (x1.length : Int) then (if x124001.toList = ((rd_T23 x1 x5).f0).toList then (some (x124000,(rd_T23 x1 x5).f1)) else (sr06_RenamedType.l0 k x1 (wrap64 (x5 + 1)) x124000 x124001)) else (none)) else (none)) else (some (x124000,x124001))
end
def sr06_RenamedType.f (k : Nat) (a0_0 : Int) (a0_1 : ByteArray) (l1 : List (S23)) : Option (Int × ByteArray) := sr06_RenamedType.l0 k l1 0 a0_0 a0_1
def sr06_RenamedType.T4 : Bool × List (List Nat × List Nat) := (true, [([], []), ([0], [0]), ([], []), ([], []), ([2, 3], [2, 3]), ([4], [4]), ([5], [5]), ([1, 6], [1, 6])])
def sr06_RenamedType.B4 : List Nat := [0, 1, 0, 0, 12, 28, 60, 127]
theorem sr06_RenamedType.tab4 : rtab .any (opsOf Tryz.f84 4) = sr06_RenamedType.T4 := by kernel_rfl
theorem sr06_RenamedType.bits4 : waitsOk sr06_RenamedType.T4.2 sr06_RenamedType.B4 = true := by kernel_rfl
def sr06_RenamedType.T5 : Bool × List (List Nat × List Nat) := (true, [([], []), ([0], [0]), ([], []), ([], []), ([2, 3], [2, 3]), ([4], [4]), ([5], [5]), ([1, 6], [1, 6]), ([7, 0, 1, 2, 3, 4, 5, 6, 7], [7])])
def sr06_RenamedType.B5 : List Nat := [0, 1, 0, 0, 12, 28, 60, 127, 255]
theorem sr06_RenamedType.tab5 : rtab .any (opsOf Tryz.f84 5) = sr06_RenamedType.T5 := by kernel_rfl
theorem sr06_RenamedType.bits5 : waitsOk sr06_RenamedType.T5.2 sr06_RenamedType.B5 = true := by kernel_rfl
theorem sr06_RenamedType.calls (k : Nat) (a0_0 : Int) (a0_1 : ByteArray) (A1 : Option Addr) (c1 : Nat) (l1 : List (S23)) (r1 : Int) (r2 : ByteArray) (w : World) (hr1 : Kd.C k23 w A1 l1.length l1) (hc1 : l1.length ≤ c1) (h : sr06_RenamedType.f k a0_0 a0_1 l1 = some (r1, r2)) :
    Calls Tryz.prog 84 #[.agg #[.int .i64 a0_0,.string a0_1],.slice A1 l1.length c1] w fun e w' => e = .returned (.agg #[.int .i64 r1,.string r2]) ∧ Below w.heap.size w w':=by
 have hu102:=Tryz.underlying102
 have HR1:=aq hr1
 have HC1:=aq hc1
 clear hr1 hc1
 have HB:=aq (Below.refl w.heap.size w)
 have H : (sr06_RenamedType.l0 k l1 0 a0_0 a0_1) = some (r1,r2):=h
 clear h
 have H':=aq H
 clear H
 go_enter Tryz.func84,Tryz.ntmps84
 go_wp2_with (first|((with_reducible refine gate_dst (N:=2) rfl ?_);refine box_event rfl (N:=2) rfl (cs:=#[.int .i64 a0_0,.string a0_1]) (t:=102) gS ?_;intro gb123 hg w3 hbox hb;have BK123:=aq (hbox);have GE123:=aq ((GN hg : w.heap.size ≤ gb123));replace HB:=aq (below_step bH hb);clear hb hbox hg)|((with_reducible refine gate_dst (N:=4) rfl ?_);refine box_event rfl (N:=4) rfl (cs:=#[.int .i64 0,.string (⟨#[]⟩ : ByteArray)]) (t:=102) gS ?_;intro gb124 hg w4 hbox hb;have BK124:=aq (hbox);have GW124:=aq ((GN hg : w.heap.size ≤ gb124));have GE124:=aq ((GN hg : w.heap.size ≤ gb124));have NB123_124:=aq (NL hg BK123);have NB124_123:=aq (NG hg BK123);replace BK123:=KN BK123 hb;replace HB:=aq (below_step bH hb);clear hb hbox hg))
 go_loopg [5] k (fun kq v5 w' => ∃ (x5_1 : Int) (x125000_1 : Int) (x125001_1 : ByteArray),v5 = .int .i64 x5_1 ∧ Aside0 (sr06_RenamedType.l0 kq l1 x5_1 a0_0 a0_1 = some (r1,r2)) ∧ Aside0 (kq ≤ k) ∧ Aside0 (w'.heap[gb123]? = some (.cells #[.int .i64 a0_0,.string a0_1] 102 (0,0))) ∧ Aside0 (w'.heap[gb124]? = some (.cells #[.int .i64 x125000_1,.string x125001_1] 102 (0,0))) ∧ Aside0 (Below w.heap.size w w'))
 case atStart => exact ⟨(0),(0),((⟨#[]⟩ : ByteArray)),eS,H',⟨Nat.le_refl _⟩,⟨KU BK123.out⟩,⟨KU BK124.out⟩,⟨bH⟩⟩
 case round =>
 clear H'
 try clear c1
 obtain ⟨x5_1,x125000_1,x125001_1,rfl,HA,HK1,BK123,BK124,HB⟩:=hrel
 cases gk with
 | zero => exact absurd HA.out (by simp [sr06_RenamedType.l0])
 | succ k1 =>
 have H:=HA.out
 clear HA
 simp only [sr06_RenamedType.l0] at H
 have HC5:=aq H
 clear H
 go_upto_region 2 with (fail)
 go_cut [19] (fun v19 wc => ∃ (kq : Nat) (x19_4 : Bool),v19 = .bool x19_4 ∧ Aside0 (sr06_RenamedType.j1 kq l1 x5_1 x19_4 a0_0 a0_1 = some (r1,r2)) ∧ Aside0 (kq ≤ k1) ∧ Aside0 (wc.heap[gb123]? = some (.cells #[.int .i64 a0_0,.string a0_1] 102 (0,0))) ∧ Aside0 (wc.heap[gb124]? = some (.cells #[.int .i64 x125000_1,.string x125001_1] 102 (0,0))) ∧ Aside0 (Below w.heap.size w wc))
 case first =>
  have H:=HC5.out
  clear HC5
  by_cases c6 : x5_1 < (l1.length : Int)
  rotate_left
  · rw [if_neg c6] at H
    have c6b0 : decide (x5_1 < (l1.length : Int)) = false:=decide_eq_false c6
    clear c6
    (first|rw [c6b0]|rw [c6b1]|(simp only [i64_w,i32_w];rw [c6b0])|skip)
    have H':=aq H
    clear H
    go_wp2
    go_meet
    case rel => exact ⟨_,(false),eS,H',⟨by have:=HK1.out;first|omega|exact Nat.le_refl _⟩,⟨KU BK123.out⟩,⟨KU BK124.out⟩,⟨bH⟩⟩
  rw [if_pos c6] at H
  have c6b0 : decide (x5_1 < (l1.length : Int)) = true:=decide_eq_true c6
  clear c6
  (first|rw [c6b0]|rw [c6b1]|(simp only [i64_w,i32_w];rw [c6b0])|skip)
  by_cases c7 : a0_0 = 3
  · rw [if_pos c7] at H
    have c7b0 : (a0_0 == 3) = true:=beq_iff_eq.mpr c7
    have c7b1 : (a0_0 != 3) = false:=bne_eq_false_iff_eq.mpr c7
    clear c7
    have H':=aq H
    clear H
    have hnb8:=NB123_124.out
    have hnc8:=NB124_123.out
    have hcz9_0 : wr.cell? ⟨gb123,0,none⟩ = some (.int .i64 a0_0):=(blk_cell BK123.out 0).trans rfl
    have hcz9_1 : wr.cell? ⟨gb123,1,none⟩ = some (.string a0_1):=(blk_cell BK123.out 1).trans rfl
    have hfz9_0:=blk_frozen BK123.out 0
    have hfz9_1:=blk_frozen BK123.out 1
    go_wp2
    go_meet
    case rel => exact ⟨_,(true),eS,H',⟨by have:=HK1.out;first|omega|exact Nat.le_refl _⟩,⟨KU BK123.out⟩,⟨KU BK124.out⟩,⟨bH⟩⟩
  rw [if_neg c7] at H
  have c7b0 : (a0_0 == 3) = false:=beq_eq_false_iff_ne.mpr c7
  have c7b1 : (a0_0 != 3) = true:=bne_iff_ne.mpr c7
  have H':=aq H
  clear H
  have hnb10:=NB123_124.out
  have hnc10:=NB124_123.out
  have hcz11_0 : wr.cell? ⟨gb123,0,none⟩ = some (.int .i64 a0_0):=(blk_cell BK123.out 0).trans rfl
  have hcz11_1 : wr.cell? ⟨gb123,1,none⟩ = some (.string a0_1):=(blk_cell BK123.out 1).trans rfl
  have hfz11_0:=blk_frozen BK123.out 0
  have hfz11_1:=blk_frozen BK123.out 1
  go_wp2
  go_meet
  case rel => exact ⟨_,((a0_0 == 5)),eS,H',⟨by have:=HK1.out;first|omega|exact Nat.le_refl _⟩,⟨KU BK123.out⟩,⟨KU BK124.out⟩,⟨bH⟩⟩
 case rest =>
 clear HC5
 try clear c1
 obtain ⟨kq,x19_4,rfl,HA,HJ4,BK123,BK124,HB⟩:=hcut
 cases kq with
 | zero => exact absurd HA.out (by simp [sr06_RenamedType.j1])
 | succ kj4 =>
 have H:=HA.out
 clear HA
 simp only [sr06_RenamedType.j1] at H
 by_cases c12 : x19_4 = true
 rotate_left
 · replace c12:=Bool.eq_false_iff.mpr c12
   subst c12
   have H1 : (some (a0_0,a0_1)) = some (r1,r2):=by rw [if_neg (show ¬ (false = true) by decide)] at H;exact H
   clear H
   have H:=H1
   clear H1
   simp only [Option.some.injEq,Prod.mk.injEq] at H
   obtain ⟨rfl,rfl⟩:=H
   have hnb21:=NB123_124.out
   have hnc21:=NB124_123.out
   have hcz22_0 : wc.cell? ⟨gb123,0,none⟩ = some (.int .i64 a0_0):=(blk_cell BK123.out 0).trans rfl
   have hcz22_1 : wc.cell? ⟨gb123,1,none⟩ = some (.string a0_1):=(blk_cell BK123.out 1).trans rfl
   have hfz22_0:=blk_frozen BK123.out 0
   have hfz22_1:=blk_frozen BK123.out 1
   have hcz23_0 : wc.cell? ⟨gb124,0,none⟩ = some (.int .i64 x125000_1):=(blk_cell BK124.out 0).trans rfl
   have hcz23_1 : wc.cell? ⟨gb124,1,none⟩ = some (.string x125001_1):=(blk_cell BK124.out 1).trans rfl
   have hfz23_0:=blk_frozen BK124.out 0
   have hfz23_1:=blk_frozen BK124.out 1
   go_wp2
   refine bodyPost_ret (results_cell_row rfl _ _ gb124 102 #[.int .i64 a0_0,.string a0_1] (0,0) _ rfl (by refine KU ?_;refine blk_put (cs:=#[.int .i64 a0_0,.string x125001_1]) ?_ 1 _ rfl;refine KU ?_;refine blk_put (cs:=#[.int .i64 x125000_1,.string x125001_1]) ?_ 0 _ rfl;refine KU ?_;exact BK124.out) Tryz.underlying102 rfl (by kernel_rfl)) rfl ?_
   exact ⟨eR,bH⟩
 subst c12
 have H1 : (if 0 ≤ x5_1 then (if x5_1 < (l1.length : Int) then (if a0_1.toList = ((rd_T23 l1 x5_1).f0).toList then (some (a0_0,(rd_T23 l1 x5_1).f1)) else (sr06_RenamedType.l0 kj4 l1 (wrap64 (x5_1 + 1)) a0_0 a0_1)) else (none)) else (none)) = some (r1,r2):=by rw [if_pos rfl] at H;exact H
 clear H
 have H:=H1
 clear H1
 by_cases c13 : 0 ≤ x5_1
 rotate_left
 · rw [if_neg c13] at H
   exact absurd H (by simp)
 rw [if_pos c13] at H
 have c13b0 : decide (0 ≤ x5_1) = true:=decide_eq_true c13
 clear c13
 by_cases c14 : x5_1 < (l1.length : Int)
 rotate_left
 · rw [if_neg c14] at H
   exact absurd H (by simp)
 rw [if_pos c14] at H
 have c14b0 : decide (x5_1 < (l1.length : Int)) = true:=decide_eq_true c14
 clear c14
 by_cases c15 : a0_1.toList = ((rd_T23 l1 x5_1).f0).toList
 rotate_left
 · rw [if_neg c15] at H
   have c15b0 : (a0_1.toList == ((rd_T23 l1 x5_1).f0).toList) = false:=beq_eq_false_iff_ne.mpr c15
   have c15b1 : (a0_1.toList != ((rd_T23 l1 x5_1).f0).toList) = true:=bne_iff_ne.mpr c15
   have H':=aq H
   clear H
   try go_wp2
   replace BK123:=aq (blk_drew BK123.out)
   replace BK124:=aq (blk_drew BK124.out)
   replace HB:=aq (below_drew1 HB.out)
   have p125 : 0 ≤ (x5_1 : Int):=of_decide_eq_true aS
   have q125 : x5_1 < (l1.length : Int):=of_decide_eq_true aS
   obtain ⟨ad125,e125,hx125_0,hx125_1⟩:=at_T23 HR1.out x5_1 p125 q125
   have hw125_1:=hx125_1
   have hw125_0:=hx125_0
   cases e125
   replace hx125_0:=(HB.out.cell (World.block_lt_of_cell? w _ hx125_0)).trans hx125_0
   replace hx125_1:=(HB.out.cell (World.block_lt_of_cell? w _ hx125_1)).trans hx125_1
   replace p125:=eq_true p125
   replace q125:=eq_true q125
   refine start_ (n:=8) (S:=fun w' => w'.cell? ⟨gb123,0,none⟩ = some (.int .i64 a0_0) ∧ w'.cell? ⟨gb123,1,none⟩ = some (.string a0_1) ∧ w'.cell? (ad125.add ((x5_1).toNat * 2)) = some (.string ((rd_T23 l1 x5_1).f0)) ∧ w'.cell? ⟨(ad125.add ((x5_1).toNat * 2)).block,(ad125.add ((x5_1).toNat * 2)).off + 1,none⟩ = some (.string ((rd_T23 l1 x5_1).f1))) (ds:=[]) #[false,false,false,false,false,false,false,false] (by kernel_rfl) rfl rfl ⟨(blk_cell BK123.out 0).trans rfl,(blk_cell BK123.out 1).trans rfl,((HB.out.cell (World.block_lt_of_cell? w _ hw125_0)).trans hw125_0),((HB.out.cell (World.block_lt_of_cell? w _ hw125_1)).trans hw125_1)⟩ (fun hHeld => ?_);refine with_tabW sr06_RenamedType.tab4 sr06_RenamedType.bits4 (fun HT_ HW_ => ?_)
   generalize wc.drew = w20 at BK123 BK124 HB hx125_0 hx125_1 hHeld ⊢
   refine pS (i:=0) (N:=some 22) ?_
   refine pS (i:=2) (N:=some 24) ?_
   refine pS (i:=3) (N:=some 25) ?_
   refine pS (i:=4) (N:=some 26) ?_
   refine pS (i:=5) (N:=some 27) ?_
   refine tS (i:=1) (N:=some 23) rfl rfl hHeld HT_.out HW_.out (by kernel_rfl) (Or.inl ⟨by rfl,by rintro w' ⟨s0,s1,s2,s3⟩;go_simp;with_reducible rfl⟩) ?_
   refine tS (i:=6) (N:=some 28) rfl rfl hHeld HT_.out HW_.out (by kernel_rfl) (Or.inl ⟨by rfl,by rintro w' ⟨s0,s1,s2,s3⟩;go_simp;with_reducible rfl⟩) ?_
   refine pS (i:=7) (N:=some 29) ?_
   refine done_ (done_of HT_.out (by kernel_rfl)) ?_
   try go_wp2
   go_roundg kj4
   case measure => have:=HK1.out;have:=HJ4.out;omega
   case rel => exact ⟨(wrap64 (x5_1 + 1)),(x125000_1),(x125001_1),eS,H',⟨by have:=HK1.out;have:=HJ4.out;omega⟩,⟨KU BK123.out⟩,⟨KU BK124.out⟩,⟨bH⟩⟩
 rw [if_pos c15] at H
 have c15b0 : (a0_1.toList == ((rd_T23 l1 x5_1).f0).toList) = true:=beq_iff_eq.mpr c15
 have c15b1 : (a0_1.toList != ((rd_T23 l1 x5_1).f0).toList) = false:=bne_eq_false_iff_eq.mpr c15
 clear c15
 simp only [Option.some.injEq,Prod.mk.injEq] at H
 obtain ⟨rfl,rfl⟩:=H
 try go_wp2
 replace BK123:=aq (blk_drew BK123.out)
 replace BK124:=aq (blk_drew BK124.out)
 replace HB:=aq (below_drew1 HB.out)
 have p125 : 0 ≤ (x5_1 : Int):=of_decide_eq_true aS
 have q125 : x5_1 < (l1.length : Int):=of_decide_eq_true aS
 obtain ⟨ad125,e125,hx125_0,hx125_1⟩:=at_T23 HR1.out x5_1 p125 q125
 have hw125_1:=hx125_1
 have hw125_0:=hx125_0
 cases e125
 replace hx125_0:=(HB.out.cell (World.block_lt_of_cell? w _ hx125_0)).trans hx125_0
 replace hx125_1:=(HB.out.cell (World.block_lt_of_cell? w _ hx125_1)).trans hx125_1
 replace p125:=eq_true p125
 replace q125:=eq_true q125
 refine start_ (n:=8) (S:=fun w' => w'.cell? ⟨gb123,0,none⟩ = some (.int .i64 a0_0) ∧ w'.cell? ⟨gb123,1,none⟩ = some (.string a0_1) ∧ w'.cell? (ad125.add ((x5_1).toNat * 2)) = some (.string ((rd_T23 l1 x5_1).f0)) ∧ w'.cell? ⟨(ad125.add ((x5_1).toNat * 2)).block,(ad125.add ((x5_1).toNat * 2)).off + 1,none⟩ = some (.string ((rd_T23 l1 x5_1).f1))) (ds:=[]) #[false,false,false,false,false,false,false,false] (by kernel_rfl) rfl rfl ⟨(blk_cell BK123.out 0).trans rfl,(blk_cell BK123.out 1).trans rfl,((HB.out.cell (World.block_lt_of_cell? w _ hw125_0)).trans hw125_0),((HB.out.cell (World.block_lt_of_cell? w _ hw125_1)).trans hw125_1)⟩ (fun hHeld => ?_);refine with_tabW sr06_RenamedType.tab4 sr06_RenamedType.bits4 (fun HT_ HW_ => ?_)
 generalize wc.drew = w16 at BK123 BK124 HB hx125_0 hx125_1 hHeld ⊢
 refine pS (i:=0) (N:=some 22) ?_
 refine pS (i:=2) (N:=some 24) ?_
 refine pS (i:=3) (N:=some 25) ?_
 refine pS (i:=4) (N:=some 26) ?_
 refine pS (i:=5) (N:=some 27) ?_
 refine tS (i:=1) (N:=some 23) rfl rfl hHeld HT_.out HW_.out (by kernel_rfl) (Or.inl ⟨by rfl,by rintro w' ⟨s0,s1,s2,s3⟩;go_simp;with_reducible rfl⟩) ?_
 refine tS (i:=6) (N:=some 28) rfl rfl hHeld HT_.out HW_.out (by kernel_rfl) (Or.inl ⟨by rfl,by rintro w' ⟨s0,s1,s2,s3⟩;go_simp;with_reducible rfl⟩) ?_
 refine pS (i:=7) (N:=some 29) ?_
 refine done_ (done_of HT_.out (by kernel_rfl)) ?_
 try go_wp2
 replace BK123:=aq (blk_drew BK123.out)
 replace BK124:=aq (blk_drew BK124.out)
 replace HB:=aq (below_drew1 HB.out)
 have p126 : 0 ≤ (x5_1 : Int):=of_decide_eq_true aS
 have q126 : x5_1 < (l1.length : Int):=of_decide_eq_true aS
 obtain ⟨ad126,e126,hx126_0,hx126_1⟩:=at_T23 HR1.out x5_1 p126 q126
 have hw126_1:=hx126_1
 have hw126_0:=hx126_0
 obtain rfl : ad125 = ad126:=(by injection e126)
 replace hx126_0:=(HB.out.cell (World.block_lt_of_cell? w _ hx126_0)).trans hx126_0
 replace hx126_1:=(HB.out.cell (World.block_lt_of_cell? w _ hx126_1)).trans hx126_1
 replace p126:=eq_true p126
 replace q126:=eq_true q126
 refine start_ (n:=9) (S:=fun w' => w'.cell? ⟨gb123,0,none⟩ = some (.int .i64 a0_0) ∧ w'.cell? ⟨gb123,1,none⟩ = some (.string a0_1) ∧ w'.cell? (ad125.add ((x5_1).toNat * 2)) = some (.string ((rd_T23 l1 x5_1).f0)) ∧ w'.cell? ⟨(ad125.add ((x5_1).toNat * 2)).block,(ad125.add ((x5_1).toNat * 2)).off + 1,none⟩ = some (.string ((rd_T23 l1 x5_1).f1))) (ds:=[]) #[false,false,false,false,false,false,false,false,false] (by kernel_rfl) rfl rfl ⟨(blk_cell BK123.out 0).trans rfl,(blk_cell BK123.out 1).trans rfl,((HB.out.cell (World.block_lt_of_cell? w _ hw126_0)).trans hw126_0),((HB.out.cell (World.block_lt_of_cell? w _ hw126_1)).trans hw126_1)⟩ (fun hHeld => ?_);refine with_tabW sr06_RenamedType.tab5 sr06_RenamedType.bits5 (fun HT_ HW_ => ?_)
 generalize w16.drew = w17 at BK123 BK124 HB hx126_0 hx126_1 hHeld ⊢
 refine pS (i:=0) (N:=some 30) ?_
 refine pS (i:=2) (N:=some 32) ?_
 refine pS (i:=3) (N:=some 33) ?_
 refine pS (i:=4) (N:=some 34) ?_
 refine pS (i:=5) (N:=some 35) ?_
 refine tS (i:=1) (N:=some 31) rfl rfl hHeld HT_.out HW_.out (by kernel_rfl) (Or.inl ⟨by rfl,by rintro w' ⟨s0,s1,s2,s3⟩;go_simp;with_reducible rfl⟩) ?_
 refine tS (i:=6) (N:=some 36) rfl rfl hHeld HT_.out HW_.out (by kernel_rfl) (Or.inl ⟨by rfl,by rintro w' ⟨s0,s1,s2,s3⟩;go_simp;with_reducible rfl⟩) ?_
 refine pS (i:=7) (N:=some 37) ?_
 refine one_ (i:=8) (N:=none) #[true,true,true,true,true,true,true,true,true] rfl rfl (one_of HT_.out (by kernel_rfl)) (by decide) (fun K hK => ?_)
 have hs18 : w17.cell? ⟨gb124,0,none⟩ = some (.int .i64 x125000_1):=(blk_cell BK124.out 0).trans rfl
 have hfs18:=blk_frozen BK124.out 0
 have hns18_0:=NB123_124.out
 have hms18_0:=NB124_123.out
 have hs19 : w17.cell? ⟨gb124,1,none⟩ = some (.string x125001_1):=(blk_cell BK124.out 1).trans rfl
 have hfs19:=blk_frozen BK124.out 1
 have hns19_0:=NB123_124.out
 have hms19_0:=NB124_123.out
 refine skip_ (w1:=?_) (by rfl) rfl ?_ ?_
 rotate_left
 · go_simp
   rfl
 refine hK.out _ _ ⟨((cell_far (p:=⟨gb124,_,none⟩) NB123_124.out _).trans (((cell_far (p:=⟨gb124,_,none⟩) NB123_124.out _).trans (hHeld.1)))),((cell_far (p:=⟨gb124,_,none⟩) NB123_124.out _).trans (((cell_far (p:=⟨gb124,_,none⟩) NB123_124.out _).trans (hHeld.2.1)))),((cell_far (p:=⟨gb124,_,none⟩) (by first|exact Nat.ne_of_lt (Nat.lt_of_lt_of_le (by have:=World.block_lt_of_cell? _ _ hw126_0;first|rwa [add_block] at this|exact this) GW124.out)|(rw [add_block];exact Nat.ne_of_lt (Nat.lt_of_lt_of_le (by have:=World.block_lt_of_cell? _ _ hw126_0;first|rwa [add_block] at this|exact this) GW124.out))|(show (Addr.add _ _).block ≠ _;rw [add_block];exact Nat.ne_of_lt (Nat.lt_of_lt_of_le (by have:=World.block_lt_of_cell? _ _ hw126_0;first|rwa [add_block] at this|exact this) GW124.out))|(dsimp only;exact Nat.ne_of_lt (Nat.lt_of_lt_of_le (by have:=World.block_lt_of_cell? _ _ hw126_0;first|rwa [add_block] at this|exact this) GW124.out))) _).trans (((cell_far (p:=⟨gb124,_,none⟩) (by first|exact Nat.ne_of_lt (Nat.lt_of_lt_of_le (by have:=World.block_lt_of_cell? _ _ hw126_0;first|rwa [add_block] at this|exact this) GW124.out)|(rw [add_block];exact Nat.ne_of_lt (Nat.lt_of_lt_of_le (by have:=World.block_lt_of_cell? _ _ hw126_0;first|rwa [add_block] at this|exact this) GW124.out))|(show (Addr.add _ _).block ≠ _;rw [add_block];exact Nat.ne_of_lt (Nat.lt_of_lt_of_le (by have:=World.block_lt_of_cell? _ _ hw126_0;first|rwa [add_block] at this|exact this) GW124.out))|(dsimp only;exact Nat.ne_of_lt (Nat.lt_of_lt_of_le (by have:=World.block_lt_of_cell? _ _ hw126_0;first|rwa [add_block] at this|exact this) GW124.out))) _).trans (hHeld.2.2.1)))),((cell_far (p:=⟨gb124,_,none⟩) (by first|exact Nat.ne_of_lt (Nat.lt_of_lt_of_le (by have:=World.block_lt_of_cell? _ _ hw126_1;first|rwa [add_block] at this|exact this) GW124.out)|(rw [add_block];exact Nat.ne_of_lt (Nat.lt_of_lt_of_le (by have:=World.block_lt_of_cell? _ _ hw126_1;first|rwa [add_block] at this|exact this) GW124.out))|(show (Addr.add _ _).block ≠ _;rw [add_block];exact Nat.ne_of_lt (Nat.lt_of_lt_of_le (by have:=World.block_lt_of_cell? _ _ hw126_1;first|rwa [add_block] at this|exact this) GW124.out))|(dsimp only;exact Nat.ne_of_lt (Nat.lt_of_lt_of_le (by have:=World.block_lt_of_cell? _ _ hw126_1;first|rwa [add_block] at this|exact this) GW124.out))) _).trans (((cell_far (p:=⟨gb124,_,none⟩) (by first|exact Nat.ne_of_lt (Nat.lt_of_lt_of_le (by have:=World.block_lt_of_cell? _ _ hw126_1;first|rwa [add_block] at this|exact this) GW124.out)|(rw [add_block];exact Nat.ne_of_lt (Nat.lt_of_lt_of_le (by have:=World.block_lt_of_cell? _ _ hw126_1;first|rwa [add_block] at this|exact this) GW124.out))|(show (Addr.add _ _).block ≠ _;rw [add_block];exact Nat.ne_of_lt (Nat.lt_of_lt_of_le (by have:=World.block_lt_of_cell? _ _ hw126_1;first|rwa [add_block] at this|exact this) GW124.out))|(dsimp only;exact Nat.ne_of_lt (Nat.lt_of_lt_of_le (by have:=World.block_lt_of_cell? _ _ hw126_1;first|rwa [add_block] at this|exact this) GW124.out))) _).trans (hHeld.2.2.2))))⟩ (fun hHeld => ?_)
 clear hK K
 refine done_ (done_of HT_.out (by kernel_rfl)) ?_
 try go_wp2
 refine bodyPost_ret (results_cell_row rfl _ _ gb124 102 #[.int .i64 a0_0,.string ((rd_T23 l1 x5_1).f1)] (0,0) _ rfl (by refine KU ?_;refine blk_put (cs:=#[.int .i64 a0_0,.string x125001_1]) ?_ 1 _ rfl;refine KU ?_;refine blk_put (cs:=#[.int .i64 x125000_1,.string x125001_1]) ?_ 0 _ rfl;refine KU ?_;exact BK124.out) Tryz.underlying102 rfl (by kernel_rfl)) rfl ?_
 exact ⟨eR,bH⟩
def sr06_Right.j0 : Nat → Int → Bool → Int → ByteArray → Option (Bool)
  | 0,_,_,_,_ => none
  | k + 1,x4,x5,x128000,x128001 => if x5 = true then (some (x128001.toList == ([] : List UInt8))) else (if x4 = 3 then ((sr04_Class.f x128001).bind fun t128 => (some t128)) else (if x4 = 5 then ((sr04_Class.f x128001).bind fun t129 => (some t129)) else (some false)))
def sr06_Right.f (k : Nat) (a0_0 : Int) (a0_1 : ByteArray) : Option (Bool) := if a0_0 = 1 then (sr06_Right.j0 k a0_0 (a0_0 == 1) a0_0 a0_1) else (if a0_0 = 2 then (sr06_Right.j0 k a0_0 (a0_0 == 2) a0_0 a0_1) else (sr06_Right.j0 k a0_0 (a0_0 == 4) a0_0 a0_1))
theorem sr06_Right.calls (k : Nat) (a0_0 : Int) (a0_1 : ByteArray) (r : Bool) (w : World) (h : sr06_Right.f k a0_0 a0_1 = some r) :
    Calls Tryz.prog 109 #[.agg #[.int .i64 a0_0,.string a0_1]] w fun e w' => e = .returned (.bool r) ∧ Below w.heap.size w w':=by
 have hu102:=Tryz.underlying102
 have HB:=aq (Below.refl w.heap.size w)
 have H : (if a0_0 = 1 then (sr06_Right.j0 k a0_0 (a0_0 == 1) a0_0 a0_1) else (if a0_0 = 2 then (sr06_Right.j0 k a0_0 (a0_0 == 2) a0_0 a0_1) else (sr06_Right.j0 k a0_0 (a0_0 == 4) a0_0 a0_1))) = some r:=h
 clear h
 have HC2:=aq H
 clear H
 go_enter Tryz.func109,Tryz.ntmps109
 go_upto_if 5 with (first|((with_reducible refine gate_dst (N:=1) rfl ?_);refine box_event rfl (N:=1) rfl (cs:=#[.int .i64 a0_0,.string a0_1]) (t:=102) gS ?_;intro gb127 hg w3 hbox hb;have BK127:=aq (hbox);have GE127:=aq ((GN hg : w.heap.size ≤ gb127));replace HB:=aq (below_step bH hb);clear hb hbox hg;have hcz4_0 : w3.cell? ⟨gb127,0,none⟩ = some (.int .i64 a0_0):=(blk_cell BK127.out 0).trans rfl;have hcz4_1 : w3.cell? ⟨gb127,1,none⟩ = some (.string a0_1):=(blk_cell BK127.out 1).trans rfl;have hfz4_0:=blk_frozen BK127.out 0;have hfz4_1:=blk_frozen BK127.out 1))
 (try simp only [Act.put,List.setIfInBounds_toArray,List.set_cons_zero,List.set_cons_succ])
 go_cut [5] (fun v5 wc => ∃ (kq : Nat) (x5_1 : Bool),v5 = .bool x5_1 ∧ Aside0 (sr06_Right.j0 kq a0_0 x5_1 a0_0 a0_1 = some r) ∧ Aside0 (kq ≤ k) ∧ Aside0 (wc.heap[gb127]? = some (.cells #[.int .i64 a0_0,.string a0_1] 102 (0,0))) ∧ Aside0 (Below w.heap.size w wc))
 case first =>
  have H:=HC2.out
  clear HC2
  by_cases c5 : a0_0 = 1
  · rw [if_pos c5] at H
    have c5b0 : (a0_0 == 1) = true:=beq_iff_eq.mpr c5
    have c5b1 : (a0_0 != 1) = false:=bne_eq_false_iff_eq.mpr c5
    clear c5
    (first|rw [c5b0]|rw [c5b1]|(simp only [i64_w,i32_w];rw [c5b0])|skip)
    have H':=aq H
    clear H
    go_wp2
    go_meet
    case rel => exact ⟨_,((a0_0 == 1)),eS,H',⟨by first|omega|exact Nat.le_refl _⟩,⟨KU BK127.out⟩,⟨bH⟩⟩
  rw [if_neg c5] at H
  have c5b0 : (a0_0 == 1) = false:=beq_eq_false_iff_ne.mpr c5
  have c5b1 : (a0_0 != 1) = true:=bne_iff_ne.mpr c5
  (first|rw [c5b0]|rw [c5b1]|(simp only [i64_w,i32_w];rw [c5b0])|skip)
  by_cases c6 : a0_0 = 2
  rotate_left
  · rw [if_neg c6] at H
    have c6b0 : (a0_0 == 2) = false:=beq_eq_false_iff_ne.mpr c6
    have c6b1 : (a0_0 != 2) = true:=bne_iff_ne.mpr c6
    have H':=aq H
    clear H
    go_wp2
    go_meet
    case rel => exact ⟨_,((a0_0 == 4)),eS,H',⟨by first|omega|exact Nat.le_refl _⟩,⟨KU BK127.out⟩,⟨bH⟩⟩
  rw [if_pos c6] at H
  have c6b0 : (a0_0 == 2) = true:=beq_iff_eq.mpr c6
  have c6b1 : (a0_0 != 2) = false:=bne_eq_false_iff_eq.mpr c6
  clear c6
  have H':=aq H
  clear H
  go_wp2
  go_meet
  case rel => exact ⟨_,((a0_0 == 2)),eS,H',⟨by first|omega|exact Nat.le_refl _⟩,⟨KU BK127.out⟩,⟨bH⟩⟩
 case rest =>
 clear HC2
 (try clear hcz4_0);(try clear hcz4_1);(try clear hfz4_0);(try clear hfz4_1)
 obtain ⟨kq,x5_1,rfl,HA,HJ1,BK127,HB⟩:=hcut
 cases kq with
 | zero => exact absurd HA.out (by simp [sr06_Right.j0])
 | succ kj1 =>
 have H:=HA.out
 clear HA
 simp only [sr06_Right.j0] at H
 by_cases c7 : x5_1 = true
 · subst c7
   have H1 : (some (a0_1.toList == ([] : List UInt8))) = some r:=by rw [if_pos rfl] at H;exact H
   clear H
   have H:=H1
   clear H1
   obtain rfl:=Option.some.inj H
   have hcz8_0 : wc.cell? ⟨gb127,0,none⟩ = some (.int .i64 a0_0):=(blk_cell BK127.out 0).trans rfl
   have hcz8_1 : wc.cell? ⟨gb127,1,none⟩ = some (.string a0_1):=(blk_cell BK127.out 1).trans rfl
   have hfz8_0:=blk_frozen BK127.out 0
   have hfz8_1:=blk_frozen BK127.out 1
   go_wp2
   go_ret
   exact ⟨eR,bH⟩
 replace c7:=Bool.eq_false_iff.mpr c7
 subst c7
 have H1 : (if a0_0 = 3 then ((sr04_Class.f a0_1).bind fun t128 => (some t128)) else (if a0_0 = 5 then ((sr04_Class.f a0_1).bind fun t129 => (some t129)) else (some false))) = some r:=by rw [if_neg (show ¬ (false = true) by decide)] at H;exact H
 clear H
 have H:=H1
 clear H1
 by_cases c9 : a0_0 = 3
 · rw [if_pos c9] at H
   have c9b0 : (a0_0 == 3) = true:=beq_iff_eq.mpr c9
   have c9b1 : (a0_0 != 3) = false:=bne_eq_false_iff_eq.mpr c9
   clear c9
   replace H:=Option.bind_eq_some_iff.mp H
   obtain ⟨t128,A100,H⟩:=H
   have A10:=aq A100
   clear A100
   obtain rfl:=Option.some.inj H
   have hcz11_0 : wc.cell? ⟨gb127,0,none⟩ = some (.int .i64 a0_0):=(blk_cell BK127.out 0).trans rfl
   have hcz11_1 : wc.cell? ⟨gb127,1,none⟩ = some (.string a0_1):=(blk_cell BK127.out 1).trans rfl
   have hfz11_0:=blk_frozen BK127.out 0
   have hfz11_1:=blk_frozen BK127.out 1
   go_wp2_with (first|((with_reducible refine gate_callee (f:=58) rfl ?_);refine goesL_ (some 17) rfl rfl Tryz.func58 (by kernel_rfl) rfl #[.string a0_1] rfl eA ?_;(with_reducible refine (sr04_Class.calls a0_1 t128 _ A10.out).mono ?_);rintro e w' ⟨rfl,⟨nd,rfl⟩⟩;refine ⟨_,rfl,?_⟩))
   go_ret
   exact ⟨eR,bH⟩
 rw [if_neg c9] at H
 have c9b0 : (a0_0 == 3) = false:=beq_eq_false_iff_ne.mpr c9
 have c9b1 : (a0_0 != 3) = true:=bne_iff_ne.mpr c9
 by_cases c12 : a0_0 = 5
 rotate_left
 · rw [if_neg c12] at H
   have c12b0 : (a0_0 == 5) = false:=beq_eq_false_iff_ne.mpr c12
   have c12b1 : (a0_0 != 5) = true:=bne_iff_ne.mpr c12
   obtain rfl:=Option.some.inj H
   go_wp2
   go_ret
   exact ⟨eR,bH⟩
 rw [if_pos c12] at H
 have c12b0 : (a0_0 == 5) = true:=beq_iff_eq.mpr c12
 have c12b1 : (a0_0 != 5) = false:=bne_eq_false_iff_eq.mpr c12
 clear c12
 replace H:=Option.bind_eq_some_iff.mp H
 obtain ⟨t129,A130,H⟩:=H
 have A13:=aq A130
 clear A130
 obtain rfl:=Option.some.inj H
 have hcz14_0 : wc.cell? ⟨gb127,0,none⟩ = some (.int .i64 a0_0):=(blk_cell BK127.out 0).trans rfl
 have hcz14_1 : wc.cell? ⟨gb127,1,none⟩ = some (.string a0_1):=(blk_cell BK127.out 1).trans rfl
 have hfz14_0:=blk_frozen BK127.out 0
 have hfz14_1:=blk_frozen BK127.out 1
 go_wp2_with (first|((with_reducible refine gate_callee (f:=58) rfl ?_);refine goesL_ (some 17) rfl rfl Tryz.func58 (by kernel_rfl) rfl #[.string a0_1] rfl eA ?_;(with_reducible refine (sr04_Class.calls a0_1 t129 _ A13.out).mono ?_);rintro e w' ⟨rfl,⟨nd,rfl⟩⟩;refine ⟨_,rfl,?_⟩))
 go_ret
 exact ⟨eR,bH⟩
def sr06_Text.f (k : Nat) (a0_0 : Int) (a0_1 : ByteArray) : Option (ByteArray) := (sr06_Right.f k a0_0 a0_1).bind fun t131 => (if t131 = true then (if a0_0 = 1 then (some (⟨#[86]⟩ : ByteArray)) else (if a0_0 = 2 then (some (⟨#[73]⟩ : ByteArray)) else (if a0_0 = 4 then (some (⟨#[91, 73]⟩ : ByteArray)) else (if a0_0 = 3 then (if 1 + a0_1.size ≤ 9223372036854775807 then (if ((⟨#[76]⟩ : ByteArray) ++ a0_1).size + 1 ≤ 9223372036854775807 then (some (((⟨#[76]⟩ : ByteArray) ++ a0_1) ++ (⟨#[59]⟩ : ByteArray))) else (none)) else (none)) else (if 2 + a0_1.size ≤ 9223372036854775807 then (if ((⟨#[91, 76]⟩ : ByteArray) ++ a0_1).size + 1 ≤ 9223372036854775807 then (some (((⟨#[91, 76]⟩ : ByteArray) ++ a0_1) ++ (⟨#[59]⟩ : ByteArray))) else (none)) else (none)))))) else (some (⟨#[]⟩ : ByteArray)))
theorem sr06_Text.calls (k : Nat) (a0_0 : Int) (a0_1 : ByteArray) (r : ByteArray) (w : World) (h : sr06_Text.f k a0_0 a0_1 = some r) :
    Calls Tryz.prog 110 #[.agg #[.int .i64 a0_0,.string a0_1]] w fun e w' => e = .returned (.string r) ∧ Below w.heap.size w w':=by
 have hu102:=Tryz.underlying102
 have HB:=aq (Below.refl w.heap.size w)
 have H : ((sr06_Right.f k a0_0 a0_1).bind fun t131 => (if t131 = true then (if a0_0 = 1 then (some (⟨#[86]⟩ : ByteArray)) else (if a0_0 = 2 then (some (⟨#[73]⟩ : ByteArray)) else (if a0_0 = 4 then (some (⟨#[91,73]⟩ : ByteArray)) else (if a0_0 = 3 then (if 1 + a0_1.size ≤ 9223372036854775807 then (if ((⟨#[76]⟩ : ByteArray) ++ a0_1).size + 1 ≤ 9223372036854775807 then (some (((⟨#[76]⟩ : ByteArray) ++ a0_1) ++ (⟨#[59]⟩ : ByteArray))) else (none)) else (none)) else (if 2 + a0_1.size ≤ 9223372036854775807 then (if ((⟨#[91,76]⟩ : ByteArray) ++ a0_1).size + 1 ≤ 9223372036854775807 then (some (((⟨#[91,76]⟩ : ByteArray) ++ a0_1) ++ (⟨#[59]⟩ : ByteArray))) else (none)) else (none)))))) else (some (⟨#[]⟩ : ByteArray)))) = some r:=h
 clear h
 replace H:=Option.bind_eq_some_iff.mp H
 obtain ⟨t131,A20,H⟩:=H
 have A2:=aq A20
 clear A20
 by_cases c3 : t131 = true
 rotate_left
 · replace c3:=Bool.eq_false_iff.mpr c3
   subst c3
   have H1 : (some (⟨#[]⟩ : ByteArray)) = some r:=by rw [if_neg (show ¬ (false = true) by decide)] at H;exact H
   clear H
   have H:=H1
   clear H1
   obtain rfl:=Option.some.inj H
   go_enter Tryz.func110,Tryz.ntmps110
   go_wp2_with (first|((with_reducible refine gate_dst (N:=1) rfl ?_);refine box_event rfl (N:=1) rfl (cs:=#[.int .i64 a0_0,.string a0_1]) (t:=102) gS ?_;intro gb130 hg w32 hbox hb;have BK130:=aq (hbox);have GE130:=aq ((GN hg : w.heap.size ≤ gb130));replace HB:=aq (below_step bH hb);clear hb hbox hg;have hcz33_0 : w32.cell? ⟨gb130,0,none⟩ = some (.int .i64 a0_0):=(blk_cell BK130.out 0).trans rfl;have hcz33_1 : w32.cell? ⟨gb130,1,none⟩ = some (.string a0_1):=(blk_cell BK130.out 1).trans rfl;have hfz33_0:=blk_frozen BK130.out 0;have hfz33_1:=blk_frozen BK130.out 1)|((with_reducible refine gate_callee (f:=109) rfl ?_);refine goesL_ (some 4) rfl rfl Tryz.func109 (by kernel_rfl) rfl #[.agg #[.int .i64 a0_0,.string a0_1]] rfl eA ?_;(with_reducible refine (sr06_Right.calls k a0_0 a0_1 false _ A2.out).mono ?_);rintro e w34 ⟨rfl,hb⟩;refine ⟨_,rfl,?_⟩;replace BK130:=KN BK130 hb;replace HB:=aq (below_step bH hb);(try clear hb);(try clear hb2);(try clear hk);(try clear hi)))
   go_ret
   exact ⟨eR,bH⟩
 subst c3
 have H1 : (if a0_0 = 1 then (some (⟨#[86]⟩ : ByteArray)) else (if a0_0 = 2 then (some (⟨#[73]⟩ : ByteArray)) else (if a0_0 = 4 then (some (⟨#[91,73]⟩ : ByteArray)) else (if a0_0 = 3 then (if 1 + a0_1.size ≤ 9223372036854775807 then (if ((⟨#[76]⟩ : ByteArray) ++ a0_1).size + 1 ≤ 9223372036854775807 then (some (((⟨#[76]⟩ : ByteArray) ++ a0_1) ++ (⟨#[59]⟩ : ByteArray))) else (none)) else (none)) else (if 2 + a0_1.size ≤ 9223372036854775807 then (if ((⟨#[91,76]⟩ : ByteArray) ++ a0_1).size + 1 ≤ 9223372036854775807 then (some (((⟨#[91,76]⟩ : ByteArray) ++ a0_1) ++ (⟨#[59]⟩ : ByteArray))) else (none)) else (none)))))) = some r:=by rw [if_pos rfl] at H;exact H
 clear H
 have H:=H1
 clear H1
 by_cases c4 : a0_0 = 1
 · rw [if_pos c4] at H
   have c4b0 : (a0_0 == 1) = true:=beq_iff_eq.mpr c4
   have c4b1 : (a0_0 != 1) = false:=bne_eq_false_iff_eq.mpr c4
   clear c4
   obtain rfl:=Option.some.inj H
   go_enter Tryz.func110,Tryz.ntmps110
   go_wp2_with (first|((with_reducible refine gate_dst (N:=1) rfl ?_);refine box_event rfl (N:=1) rfl (cs:=#[.int .i64 a0_0,.string a0_1]) (t:=102) gS ?_;intro gb130 hg w5 hbox hb;have BK130:=aq (hbox);have GE130:=aq ((GN hg : w.heap.size ≤ gb130));replace HB:=aq (below_step bH hb);clear hb hbox hg;have hcz6_0 : w5.cell? ⟨gb130,0,none⟩ = some (.int .i64 a0_0):=(blk_cell BK130.out 0).trans rfl;have hcz6_1 : w5.cell? ⟨gb130,1,none⟩ = some (.string a0_1):=(blk_cell BK130.out 1).trans rfl;have hfz6_0:=blk_frozen BK130.out 0;have hfz6_1:=blk_frozen BK130.out 1)|((with_reducible refine gate_callee (f:=109) rfl ?_);refine goesL_ (some 4) rfl rfl Tryz.func109 (by kernel_rfl) rfl #[.agg #[.int .i64 a0_0,.string a0_1]] rfl eA ?_;(with_reducible refine (sr06_Right.calls k a0_0 a0_1 true _ A2.out).mono ?_);rintro e w7 ⟨rfl,hb⟩;refine ⟨_,rfl,?_⟩;replace BK130:=KN BK130 hb;replace HB:=aq (below_step bH hb);(try clear hb);(try clear hb2);(try clear hk);(try clear hi);have hcz8_0 : w7.cell? ⟨gb130,0,none⟩ = some (.int .i64 a0_0):=(blk_cell BK130.out 0).trans rfl;have hcz8_1 : w7.cell? ⟨gb130,1,none⟩ = some (.string a0_1):=(blk_cell BK130.out 1).trans rfl;have hfz8_0:=blk_frozen BK130.out 0;have hfz8_1:=blk_frozen BK130.out 1))
   go_ret
   exact ⟨eR,bH⟩
 rw [if_neg c4] at H
 have c4b0 : (a0_0 == 1) = false:=beq_eq_false_iff_ne.mpr c4
 have c4b1 : (a0_0 != 1) = true:=bne_iff_ne.mpr c4
 by_cases c9 : a0_0 = 2
 · rw [if_pos c9] at H
   have c9b0 : (a0_0 == 2) = true:=beq_iff_eq.mpr c9
   have c9b1 : (a0_0 != 2) = false:=bne_eq_false_iff_eq.mpr c9
   clear c9
   obtain rfl:=Option.some.inj H
   go_enter Tryz.func110,Tryz.ntmps110
   go_wp2_with (first|((with_reducible refine gate_dst (N:=1) rfl ?_);refine box_event rfl (N:=1) rfl (cs:=#[.int .i64 a0_0,.string a0_1]) (t:=102) gS ?_;intro gb130 hg w10 hbox hb;have BK130:=aq (hbox);have GE130:=aq ((GN hg : w.heap.size ≤ gb130));replace HB:=aq (below_step bH hb);clear hb hbox hg;have hcz11_0 : w10.cell? ⟨gb130,0,none⟩ = some (.int .i64 a0_0):=(blk_cell BK130.out 0).trans rfl;have hcz11_1 : w10.cell? ⟨gb130,1,none⟩ = some (.string a0_1):=(blk_cell BK130.out 1).trans rfl;have hfz11_0:=blk_frozen BK130.out 0;have hfz11_1:=blk_frozen BK130.out 1)|((with_reducible refine gate_callee (f:=109) rfl ?_);refine goesL_ (some 4) rfl rfl Tryz.func109 (by kernel_rfl) rfl #[.agg #[.int .i64 a0_0,.string a0_1]] rfl eA ?_;(with_reducible refine (sr06_Right.calls k a0_0 a0_1 true _ A2.out).mono ?_);rintro e w12 ⟨rfl,hb⟩;refine ⟨_,rfl,?_⟩;replace BK130:=KN BK130 hb;replace HB:=aq (below_step bH hb);(try clear hb);(try clear hb2);(try clear hk);(try clear hi);have hcz13_0 : w12.cell? ⟨gb130,0,none⟩ = some (.int .i64 a0_0):=(blk_cell BK130.out 0).trans rfl;have hcz13_1 : w12.cell? ⟨gb130,1,none⟩ = some (.string a0_1):=(blk_cell BK130.out 1).trans rfl;have hfz13_0:=blk_frozen BK130.out 0;have hfz13_1:=blk_frozen BK130.out 1))
   go_ret
   exact ⟨eR,bH⟩
 rw [if_neg c9] at H
 have c9b0 : (a0_0 == 2) = false:=beq_eq_false_iff_ne.mpr c9
 have c9b1 : (a0_0 != 2) = true:=bne_iff_ne.mpr c9
 by_cases c14 : a0_0 = 4
 · rw [if_pos c14] at H
   have c14b0 : (a0_0 == 4) = true:=beq_iff_eq.mpr c14
   have c14b1 : (a0_0 != 4) = false:=bne_eq_false_iff_eq.mpr c14
   clear c14
   obtain rfl:=Option.some.inj H
   go_enter Tryz.func110,Tryz.ntmps110
   go_wp2_with (first|((with_reducible refine gate_dst (N:=1) rfl ?_);refine box_event rfl (N:=1) rfl (cs:=#[.int .i64 a0_0,.string a0_1]) (t:=102) gS ?_;intro gb130 hg w15 hbox hb;have BK130:=aq (hbox);have GE130:=aq ((GN hg : w.heap.size ≤ gb130));replace HB:=aq (below_step bH hb);clear hb hbox hg;have hcz16_0 : w15.cell? ⟨gb130,0,none⟩ = some (.int .i64 a0_0):=(blk_cell BK130.out 0).trans rfl;have hcz16_1 : w15.cell? ⟨gb130,1,none⟩ = some (.string a0_1):=(blk_cell BK130.out 1).trans rfl;have hfz16_0:=blk_frozen BK130.out 0;have hfz16_1:=blk_frozen BK130.out 1)|((with_reducible refine gate_callee (f:=109) rfl ?_);refine goesL_ (some 4) rfl rfl Tryz.func109 (by kernel_rfl) rfl #[.agg #[.int .i64 a0_0,.string a0_1]] rfl eA ?_;(with_reducible refine (sr06_Right.calls k a0_0 a0_1 true _ A2.out).mono ?_);rintro e w17 ⟨rfl,hb⟩;refine ⟨_,rfl,?_⟩;replace BK130:=KN BK130 hb;replace HB:=aq (below_step bH hb);(try clear hb);(try clear hb2);(try clear hk);(try clear hi);have hcz18_0 : w17.cell? ⟨gb130,0,none⟩ = some (.int .i64 a0_0):=(blk_cell BK130.out 0).trans rfl;have hcz18_1 : w17.cell? ⟨gb130,1,none⟩ = some (.string a0_1):=(blk_cell BK130.out 1).trans rfl;have hfz18_0:=blk_frozen BK130.out 0;have hfz18_1:=blk_frozen BK130.out 1))
   go_ret
   exact ⟨eR,bH⟩
 rw [if_neg c14] at H
 have c14b0 : (a0_0 == 4) = false:=beq_eq_false_iff_ne.mpr c14
 have c14b1 : (a0_0 != 4) = true:=bne_iff_ne.mpr c14
 by_cases c19 : a0_0 = 3
 · rw [if_pos c19] at H
   have c19b0 : (a0_0 == 3) = true:=beq_iff_eq.mpr c19
   have c19b1 : (a0_0 != 3) = false:=bne_eq_false_iff_eq.mpr c19
   clear c19
   by_cases c20 : 1 + a0_1.size ≤ 9223372036854775807
   rotate_left
   · rw [if_neg c20] at H
     exact absurd H (by simp)
   rw [if_pos c20] at H
   have c20b0:=eq_true c20
   have c20b1 : decide (1 + a0_1.size ≤ 9223372036854775807) = true:=decide_eq_true c20
   try have c20b2 : (9223372036854775807 < 1 + a0_1.size) = False:=eq_false (Nat.not_lt.2 c20)
   by_cases c21 : ((⟨#[76]⟩ : ByteArray) ++ a0_1).size + 1 ≤ 9223372036854775807
   rotate_left
   · rw [if_neg c21] at H
     exact absurd H (by simp)
   rw [if_pos c21] at H
   have c21b0:=eq_true c21
   have c21b1 : decide (((⟨#[76]⟩ : ByteArray) ++ a0_1).size + 1 ≤ 9223372036854775807) = true:=decide_eq_true c21
   try have c21b2 : (9223372036854775807 < ((⟨#[76]⟩ : ByteArray) ++ a0_1).size + 1) = False:=eq_false (Nat.not_lt.2 c21)
   try have c21b3 : (9223372036854775807 < (1 + a0_1.size) + 1) = False:=eq_false (Nat.not_lt.2 (by have h_:=c21;simp only [ByteArray.size_append] at h_;exact h_))
   try have c21b4 : (9223372036854775807 < 1 + a0_1.size) = False:=eq_false (Nat.not_lt.2 (Nat.le_trans (Nat.le_add_right _ _) (show (1 + a0_1.size) + 1 ≤ 9223372036854775807 from by have h_:=c21;simp only [ByteArray.size_append] at h_;exact h_)))
   obtain rfl:=Option.some.inj H
   go_enter Tryz.func110,Tryz.ntmps110
   go_wp2_with (first|((with_reducible refine gate_dst (N:=1) rfl ?_);refine box_event rfl (N:=1) rfl (cs:=#[.int .i64 a0_0,.string a0_1]) (t:=102) gS ?_;intro gb130 hg w22 hbox hb;have BK130:=aq (hbox);have GE130:=aq ((GN hg : w.heap.size ≤ gb130));replace HB:=aq (below_step bH hb);clear hb hbox hg;have hcz23_0 : w22.cell? ⟨gb130,0,none⟩ = some (.int .i64 a0_0):=(blk_cell BK130.out 0).trans rfl;have hcz23_1 : w22.cell? ⟨gb130,1,none⟩ = some (.string a0_1):=(blk_cell BK130.out 1).trans rfl;have hfz23_0:=blk_frozen BK130.out 0;have hfz23_1:=blk_frozen BK130.out 1)|((with_reducible refine gate_callee (f:=109) rfl ?_);refine goesL_ (some 4) rfl rfl Tryz.func109 (by kernel_rfl) rfl #[.agg #[.int .i64 a0_0,.string a0_1]] rfl eA ?_;(with_reducible refine (sr06_Right.calls k a0_0 a0_1 true _ A2.out).mono ?_);rintro e w24 ⟨rfl,hb⟩;refine ⟨_,rfl,?_⟩;replace BK130:=KN BK130 hb;replace HB:=aq (below_step bH hb);(try clear hb);(try clear hb2);(try clear hk);(try clear hi);have hcz25_0 : w24.cell? ⟨gb130,0,none⟩ = some (.int .i64 a0_0):=(blk_cell BK130.out 0).trans rfl;have hcz25_1 : w24.cell? ⟨gb130,1,none⟩ = some (.string a0_1):=(blk_cell BK130.out 1).trans rfl;have hfz25_0:=blk_frozen BK130.out 0;have hfz25_1:=blk_frozen BK130.out 1))
   go_ret
   exact ⟨eR,bH⟩
 rw [if_neg c19] at H
 have c19b0 : (a0_0 == 3) = false:=beq_eq_false_iff_ne.mpr c19
 have c19b1 : (a0_0 != 3) = true:=bne_iff_ne.mpr c19
 by_cases c26 : 2 + a0_1.size ≤ 9223372036854775807
 rotate_left
 · rw [if_neg c26] at H
   exact absurd H (by simp)
 rw [if_pos c26] at H
 have c26b0:=eq_true c26
 have c26b1 : decide (2 + a0_1.size ≤ 9223372036854775807) = true:=decide_eq_true c26
 try have c26b2 : (9223372036854775807 < 2 + a0_1.size) = False:=eq_false (Nat.not_lt.2 c26)
 by_cases c27 : ((⟨#[91,76]⟩ : ByteArray) ++ a0_1).size + 1 ≤ 9223372036854775807
 rotate_left
 · rw [if_neg c27] at H
   exact absurd H (by simp)
 rw [if_pos c27] at H
 have c27b0:=eq_true c27
 have c27b1 : decide (((⟨#[91,76]⟩ : ByteArray) ++ a0_1).size + 1 ≤ 9223372036854775807) = true:=decide_eq_true c27
 try have c27b2 : (9223372036854775807 < ((⟨#[91,76]⟩ : ByteArray) ++ a0_1).size + 1) = False:=eq_false (Nat.not_lt.2 c27)
 try have c27b3 : (9223372036854775807 < (2 + a0_1.size) + 1) = False:=eq_false (Nat.not_lt.2 (by have h_:=c27;simp only [ByteArray.size_append] at h_;exact h_))
 try have c27b4 : (9223372036854775807 < 2 + a0_1.size) = False:=eq_false (Nat.not_lt.2 (Nat.le_trans (Nat.le_add_right _ _) (show (2 + a0_1.size) + 1 ≤ 9223372036854775807 from by have h_:=c27;simp only [ByteArray.size_append] at h_;exact h_)))
 obtain rfl:=Option.some.inj H
 go_enter Tryz.func110,Tryz.ntmps110
 go_wp2_with (first|((with_reducible refine gate_dst (N:=1) rfl ?_);refine box_event rfl (N:=1) rfl (cs:=#[.int .i64 a0_0,.string a0_1]) (t:=102) gS ?_;intro gb130 hg w28 hbox hb;have BK130:=aq (hbox);have GE130:=aq ((GN hg : w.heap.size ≤ gb130));replace HB:=aq (below_step bH hb);clear hb hbox hg;have hcz29_0 : w28.cell? ⟨gb130,0,none⟩ = some (.int .i64 a0_0):=(blk_cell BK130.out 0).trans rfl;have hcz29_1 : w28.cell? ⟨gb130,1,none⟩ = some (.string a0_1):=(blk_cell BK130.out 1).trans rfl;have hfz29_0:=blk_frozen BK130.out 0;have hfz29_1:=blk_frozen BK130.out 1)|((with_reducible refine gate_callee (f:=109) rfl ?_);refine goesL_ (some 4) rfl rfl Tryz.func109 (by kernel_rfl) rfl #[.agg #[.int .i64 a0_0,.string a0_1]] rfl eA ?_;(with_reducible refine (sr06_Right.calls k a0_0 a0_1 true _ A2.out).mono ?_);rintro e w30 ⟨rfl,hb⟩;refine ⟨_,rfl,?_⟩;replace BK130:=KN BK130 hb;replace HB:=aq (below_step bH hb);(try clear hb);(try clear hb2);(try clear hk);(try clear hi);have hcz31_0 : w30.cell? ⟨gb130,0,none⟩ = some (.int .i64 a0_0):=(blk_cell BK130.out 0).trans rfl;have hcz31_1 : w30.cell? ⟨gb130,1,none⟩ = some (.string a0_1):=(blk_cell BK130.out 1).trans rfl;have hfz31_0:=blk_frozen BK130.out 0;have hfz31_1:=blk_frozen BK130.out 1))
 go_ret
 exact ⟨eR,bH⟩
end Go.Proofs.YtaokkkolbifdpaaGreatDoor.Q8
end

section
namespace Go.Proofs.YtaokkkolbifdpaaGreatDoor.Hand
open Go.RowKit Go.Proofs.YtaokkkolbifdpaaGreatDoorW
open PrintWords PrintLast PrintMore
theorem mid_bl (s : ByteArray) (a b : Nat) : bl (s.extract a b) = ((bl s).take b).drop a := by
 unfold bl
 rw [ByteArray.data_extract]
 simp only [Array.toList_extract,List.extract_eq_take_drop]
 rw [List.drop_take]
theorem byte_is {b c : UInt8} {m : Int} (hm : m = (c.toNat : Int)) : ((b.toNat : Int) = m) ↔ b = c := by
 subst hm
 constructor
 ·
  intro h
  apply UInt8.toNat_inj.1
  omega
 ·
  rintro rfl
  rfl
def NextIs (q : Option (Ty × List UInt8)) (n : Nat) (y : Option (Int × ByteArray × Int × Bool)) : Prop := match q with
 | some (t,r) => r.length ≤ n ∧ y = some (t.1,lb t.2,((n - r.length : Nat) : Int),true)
 | none => ∃ a b c,y = some (a,b,c,false)
theorem next_scan (s : ByteArray) (hs : s.size ≤ 1048576) (a : Nat) (x7 : Bool) : ∀ (d j k : Nat), s.size - j = d → a + 1 ≤ j → j ≤ s.size → d + 3 ≤ k →
  Q8.sr06_next.l0 k s (a : Int) x7 (j : Int) = match untilL 59 ((bl s).drop j) with
   | some (nm,r) => if classL (((bl s).take (j + nm.length)).drop (a + 1)) = true then some (if x7 = true then 5 else 3,lb (((bl s).take (j + nm.length)).drop (a + 1)),((j + nm.length + 1 : Nat) : Int),true) else some (0,(⟨#[]⟩ : ByteArray),0,false)
   | none => some (0,(⟨#[]⟩ : ByteArray),0,false):=by
 intro d
 induction d with
 | zero =>
  intro j k hd h1 h2 hk
  obtain ⟨k,rfl⟩ : ∃ i,k = i + 3:=⟨k - 3,by omega⟩
  have hj : j = s.size:=by omega
  rw [List.drop_of_length_le (by rw [bl_len];omega)]
  rw [Q8.sr06_next.l0,if_neg (by omega),Q8.sr06_next.j3,if_pos (by omega),Q8.sr06_next.j4,if_pos rfl]
  rfl
 | succ d ih =>
  intro j k hd h1 h2 hk
  obtain ⟨k,rfl⟩ : ∃ i,k = i + 1:=⟨k - 1,by omega⟩
  have hlt : j < s.size:=by omega
  obtain ⟨b,hb1,hb2,hdr⟩:=bt_bl s j hlt
  rw [Q8.sr06_next.l0,if_pos (by omega),if_pos (by omega),hb2,hdr,untilL]
  have hw1 : wrap64 ((a : Int) + 1) = ((a + 1 : Nat) : Int):=by rw [wrap_in (by omega) (by omega)];omega
  have hw2 : wrap64 ((j : Int) + 1) = ((j + 1 : Nat) : Int):=by rw [wrap_in (by omega) (by omega)];omega
  by_cases h59 : b = 59
  ·
   obtain ⟨k,rfl⟩ : ∃ i,k = i + 2:=⟨k - 2,by omega⟩
   have hcl : sr04_Class.f (s.extract (a + 1) j) = some (classL (((bl s).take j).drop (a + 1))):=by
    unfold sr04_Class.f
    rw [if_pos (by have:=extract_size s (a + 1) j;omega),← mid_bl]
    rfl
   rw [if_pos ((byte_is (c:=59) (m:=59) (by decide)).2 h59),if_pos h59,Q8.sr06_next.j3,if_neg (by omega),hw1,if_pos (by omega),if_pos (by omega),if_pos (by omega),Int.toNat_natCast,Int.toNat_natCast,hcl,Option.bind_some,Q8.sr06_next.j4]
   simp only [List.length_nil,Nat.add_zero]
   cases hc : classL (((bl s).take j).drop (a + 1)) with
   | false => rw [if_pos (show (!false) = true from rfl),if_neg (show ¬ (false = true) by decide)]
   | true =>
    rw [if_neg (show ¬ ((!true) = true) by decide),if_pos (show true = true from rfl),hw1,hw2,if_pos (by omega),if_pos (by omega),if_pos (by omega),Int.toNat_natCast,Int.toNat_natCast,← mid_bl,lb_bl]
    cases x7 <;> rfl
  ·
   rw [if_neg (fun h => h59 ((byte_is (c:=59) (m:=59) (by decide)).1 h)),if_neg h59,hw2,ih (j + 1) k (by omega) (by omega) (by omega) (by omega)]
   cases untilL 59 ((bl s).drop (j + 1)) with
   | none => rfl
   | some p =>
    obtain ⟨nm,r⟩:=p
    simp only [Option.map_some,List.length_cons]
    rw [show j + 1 + nm.length = j + (nm.length + 1) by omega]
theorem next_flat (s : ByteArray) (hs : s.size ≤ 1048576) (p : Nat) (hp : p ≤ s.size) (x7 : Bool) (k : Nat) (hk : s.size + 5 ≤ k) :
  NextIs (flatT classL (if x7 = true then 2 else 0) ((bl s).drop p)) s.size (Q8.sr06_next.j1 k s (p : Int) x7):=by
 obtain ⟨k,rfl⟩ : ∃ i,k = i + 1:=⟨k - 1,by omega⟩
 obtain ⟨D,hD⟩ : ∃ D : Int,(if x7 = true then (2 : Int) else 0) = D:=⟨_,rfl⟩
 rw [hD]
 by_cases hlt : p < s.size
 ·
  obtain ⟨b,hb1,hb2,hdr⟩:=bt_bl s p hlt
  have hw : wrap64 ((p : Int) + 1) = ((p + 1 : Nat) : Int):=by rw [wrap_in (by omega) (by omega)];omega
  have hrl : ((bl s).drop (p + 1)).length = s.size - (p + 1):=by rw [List.length_drop,bl_len]
  rw [Q8.sr06_next.j1,if_neg (by omega),if_pos (by omega),if_pos (by omega),hb2,hdr,flatT]
  by_cases h86 : b = 86
  ·
   rw [if_pos ((byte_is (c:=86) (m:=86) (by decide)).2 h86),if_pos h86,hw]
   subst hD
   cases x7 with
   | true => exact ⟨_,_,_,rfl⟩
   | false =>
    refine ⟨by omega,?_⟩
    rw [hrl,show s.size - (s.size - (p + 1)) = p + 1 by omega]
    rfl
  ·
   rw [if_neg (fun h => h86 ((byte_is (c:=86) (m:=86) (by decide)).1 h)),if_neg h86]
   by_cases h73 : b = 73
   ·
    rw [if_pos ((byte_is (c:=73) (m:=73) (by decide)).2 h73),if_pos h73,hw]
    subst hD
    refine ⟨by omega,?_⟩
    rw [hrl,show s.size - (s.size - (p + 1)) = p + 1 by omega]
    cases x7 <;> rfl
   ·
    rw [if_neg (fun h => h73 ((byte_is (c:=73) (m:=73) (by decide)).1 h)),if_neg h73]
    by_cases h76 : b = 76
    ·
     rw [if_pos ((byte_is (c:=76) (m:=76) (by decide)).2 h76),if_pos h76]
     obtain ⟨k,rfl⟩ : ∃ i,k = i + 1:=⟨k - 1,by omega⟩
     rw [Q8.sr06_next.l0,if_pos (by omega),if_pos (by omega),hb2,if_neg (fun h => by rw [(byte_is (c:=59) (m:=59) (by decide)).1 h] at h76;cases h76),hw,next_scan s hs p x7 _ (p + 1) k rfl (by omega) (by omega) (by omega)]
     unfold classT
     cases hu : untilL 59 ((bl s).drop (p + 1)) with
     | none => exact ⟨_,_,_,rfl⟩
     | some q =>
      obtain ⟨nm,r⟩:=q
      have hsp:=(until_some _ _ _ hu).1
      have hlen:=congrArg List.length hsp
      rw [hrl,List.length_append,List.length_cons] at hlen
      have hmid : ((bl s).take (p + 1 + nm.length)).drop (p + 1) = nm:=by
       rw [List.drop_take,show p + 1 + nm.length - (p + 1) = nm.length by omega,hsp,List.take_left]
      simp only
      rw [hmid]
      cases hc : classL nm with
      | false => exact ⟨_,_,_,rfl⟩
      | true =>
       subst hD
       refine ⟨by omega,?_⟩
       rw [if_pos rfl,show s.size - r.length = p + 1 + nm.length + 1 by omega]
       cases x7 <;> rfl
    ·
     rw [if_neg (fun h => h76 ((byte_is (c:=76) (m:=76) (by decide)).1 h)),if_neg h76]
     exact ⟨_,_,_,rfl⟩
 ·
  rw [Q8.sr06_next.j1,if_pos (by omega),List.drop_of_length_le (by rw [bl_len];omega)]
  exact ⟨_,_,_,rfl⟩
theorem next_is (s : ByteArray) (hs : s.size ≤ 1048576) (p : Nat) (hp : p ≤ s.size) (k : Nat) (hk : s.size + 6 ≤ k) :
  NextIs (oneT classL ((bl s).drop p)) s.size (Q8.sr06_next.f k s (p : Int)):=by
 obtain ⟨k,rfl⟩ : ∃ i,k = i + 1:=⟨k - 1,by omega⟩
 unfold Q8.sr06_next.f
 by_cases hlt : p < s.size
 ·
  obtain ⟨b,hb1,hb2,hdr⟩:=bt_bl s p hlt
  have hw : wrap64 ((p : Int) + 1) = ((p + 1 : Nat) : Int):=by rw [wrap_in (by omega) (by omega)];omega
  rw [if_pos (by omega),if_pos (by omega),hb2,Q8.sr06_next.j0,hdr,oneT]
  by_cases h91 : b = 91
  ·
   have e : ((b.toNat : Int) == 91) = true:=by rw [h91];rfl
   rw [e,if_pos (show true = true from rfl),if_pos h91,hw]
   exact next_flat s hs (p + 1) (by omega) true k (by omega)
  ·
   have e : ((b.toNat : Int) == 91) = false:=beq_eq_false_iff_ne.2 fun h => h91 ((byte_is (c:=91) (m:=91) (by decide)).1 h)
   rw [e,if_neg (show ¬ (false = true) by decide),if_neg h91,← hdr]
   exact next_flat s hs p (by omega) false k (by omega)
 ·
  rw [if_neg (by omega),Q8.sr06_next.j0,if_neg (by decide)]
  have:=next_flat s hs p hp false k (by omega)
  rw [List.drop_of_length_le (by rw [bl_len];omega)] at this ⊢
  exact this
theorem parseTR_eq (s : ByteArray) (hs : s.size ≤ 1048576) (k : Nat) (hk : s.size + 6 ≤ k) :
  Q8.sr06_Parse.f k s = some ((parseT classL (bl s)).1.1,lb (parseT classL (bl s)).1.2,(parseT classL (bl s)).2):=by
 have h:=next_is s hs 0 (by omega) k hk
 rw [List.drop_zero] at h
 unfold Q8.sr06_Parse.f parseT
 have e0 : ((0 : Nat) : Int) = 0:=rfl
 rw [e0] at h
 cases ho : oneT classL (bl s) with
 | none =>
  rw [ho] at h
  obtain ⟨a,b,c,h⟩:=h
  rw [h,Option.bind_some]
  dsimp only
  rw [if_neg (by decide)]
  rfl
 | some q =>
  obtain ⟨t,r⟩:=q
  rw [ho] at h
  obtain ⟨h1,h⟩:=h
  rw [h,Option.bind_some]
  dsimp only
  rw [if_pos rfl]
  cases r with
  | nil => rw [if_pos (by simp)]
  | cons x r =>
   have h2 : (bl s).length = s.size:=bl_len s
   have h3 : (x :: r).length = r.length + 1:=rfl
   rw [if_neg (by omega)]
   rfl
theorem rightR_eq (a0 : Int) (a1 : ByteArray) (hs : a1.size ≤ 9223372036854775806) (k : Nat) (hk : 1 ≤ k) : Q8.sr06_Right.f k a0 a1 = some (rightT classL (a0, bl a1)) := by
 obtain ⟨k,rfl⟩ : ∃ i,k = i + 1:=⟨k - 1,by omega⟩
 have e : sr04_Class.f a1 = some (classL (bl a1)):=by unfold sr04_Class.f;rw [if_pos hs];rfl
 have e2 : (a1.toList == ([] : List UInt8)) = decide (bl a1 = []):=by
  rw [ByteArray.toList_eq]
  unfold bl
  cases a1.data.toList with
  | nil => rfl
  | cons x l => rfl
 unfold Q8.sr06_Right.f rightT
 simp only [Q8.sr06_Right.j0]
 rw [e,e2]
 by_cases h1 : a0 = 1
 ·
  subst h1;simp
 ·
  by_cases h2 : a0 = 2
  ·
   subst h2;simp
  ·
   by_cases h4 : a0 = 4
   ·
    subst h4;simp
   ·
    by_cases h3 : a0 = 3
    ·
     subst h3;simp
    ·
     by_cases h5 : a0 = 5
     ·
      subst h5;simp
     ·
      simp [h1,h2,h3,h4,h5]
      intro _ _
      omega
theorem textR_eq (a0 : Int) (a1 : ByteArray) (hs : a1.size ≤ 4611686018427387903) (k : Nat) (hk : 1 ≤ k) : Q8.sr06_Text.f k a0 a1 = some (lb (textT classL (a0, bl a1))) := by
 unfold Q8.sr06_Text.f textT
 rw [rightR_eq a0 a1 (by omega) k hk,Option.bind_some]
 cases hr : rightT classL (a0,bl a1) with
 | false => rfl
 | true =>
  have hsz : ∀ x : ByteArray,x = ⟨#[76]⟩ ++ a1 → x.size = a1.size + 1:=fun x hx => by
   rw [hx,ByteArray.size_append]
   have : (⟨#[76]⟩ : ByteArray).size = 1:=rfl
   omega
  have hsz2 : ∀ x : ByteArray,x = ⟨#[91,76]⟩ ++ a1 → x.size = a1.size + 2:=fun x hx => by
   rw [hx,ByteArray.size_append]
   have : (⟨#[91,76]⟩ : ByteArray).size = 2:=rfl
   omega
  have c1 : ((⟨#[76]⟩ : ByteArray) ++ a1) ++ (⟨#[59]⟩ : ByteArray) = lb (76 :: (bl a1 ++ [59])):=by
   apply bl_inj
   rw [bl_append,bl_append]
   rfl
  have c2 : ((⟨#[91,76]⟩ : ByteArray) ++ a1) ++ (⟨#[59]⟩ : ByteArray) = lb (91 :: 76 :: (bl a1 ++ [59])):=by
   apply bl_inj
   rw [bl_append,bl_append]
   rfl
  rw [if_pos rfl,if_pos rfl]
  rcases right_cases hr with ⟨e1,e2⟩|⟨e1,e2⟩|⟨e1,e2⟩|⟨e1,e2⟩|⟨e1,e2⟩ <;> simp only at e1 e2 <;> subst e1
  ·
   rfl
  ·
   rfl
  ·
   rw [if_neg (by decide),if_neg (by decide),if_neg (by decide),if_pos rfl,if_pos (by omega),if_pos (by rw [hsz _ rfl];omega),c1]
   rfl
  ·
   rfl
  ·
   rw [if_neg (by decide),if_neg (by decide),if_neg (by decide),if_neg (by decide),if_pos (by omega),if_pos (by rw [hsz2 _ rfl];omega),c2]
   rfl
end Go.Proofs.YtaokkkolbifdpaaGreatDoor.Hand
end
