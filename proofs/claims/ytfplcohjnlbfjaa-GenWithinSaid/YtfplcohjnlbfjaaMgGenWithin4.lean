import Derived.Test.YtfplcohjnlbfjaaMgGenWithin1
import Derived.Test.YtfplcohjnlbfjaaMgGenWithin3
import Derived.Test.YtfplcohjnlbfjaaMgGenWithin2
import Derived.WalkSpells
set_option linter.unusedVariables false
set_option linter.unusedSimpArgs false
set_option maxHeartbeats 64000000
set_option maxRecDepth 100000
section
namespace Go.Proofs.Ytfplcohjnlbfjaa.Hand
open Go.RowKit Go.Proofs.YtfplcohjnlbfjaaW
open PrintWords PrintLast PrintMore
theorem gr_scan {α : Type} (p : α → Bool) (xs : List α) (F : Nat → Int → Option Int) (hF : ∀ (k i : Nat) (hi : i < xs.length), F (k + 1) (i : Int) = if p xs[i] = true then some (i : Int) else F k ((i + 1 : Nat) : Int)) (hE : ∀ k, F (k + 1) (xs.length : Int) = some (-1)) :
  ∀ (d i k : Nat),xs.length - i = d → i ≤ xs.length → d + 1 ≤ k → (∀ (j : Nat) (hj : j < xs.length),j < i → p xs[j] = false) → F k (i : Int) = some (idxI p xs):=by
 intro d
 induction d with
 | zero =>
  intro i k hd hi hk hno
  obtain ⟨k,rfl⟩ : ∃ j,k = j + 1:=⟨k - 1,by omega⟩
  obtain rfl : i = xs.length:=by omega
  rw [hE,idxI_no]
  intro x hx
  obtain ⟨j,hj,rfl⟩:=List.getElem_of_mem hx
  exact hno j hj hj
 | succ d ih =>
  intro i k hd hi hk hno
  obtain ⟨k,rfl⟩ : ∃ j,k = j + 1:=⟨k - 1,by omega⟩
  have hlt : i < xs.length:=by omega
  rw [hF k i hlt]
  by_cases hp : p xs[i] = true
  ·
   rw [if_pos hp,idxI_at hlt hp hno]
  ·
   rw [if_neg hp]
   refine ih (i + 1) k (by omega) (by omega) (by omega) fun j hj hji => ?_
   rcases Nat.lt_or_ge j i with h|h
   ·
    exact hno j hj h
   ·
    obtain rfl : j = i:=by omega
    exact Bool.eq_false_iff.2 hp
theorem gr_wrap {i n : Nat} (h : i < n) (hn : n ≤ 9223372036854775807) : wrap64 ((i : Int) + 1) = ((i + 1 : Nat) : Int) := by
 unfold wrap64
 omega
def isF (name : ByteArray) (x : S103) : Bool := x.f0.toList == name.toList
theorem rdC_get (xs : List S33) (i : Nat) (hi : i < xs.length) : rd_T33 xs (i : Int) = xs[i] := by
 unfold rd_T33
 rw [Int.toNat_natCast,List.getD_eq_getElem?_getD,List.getElem?_eq_getElem hi]
 rfl
theorem rdM_get (xs : List S37) (i : Nat) (hi : i < xs.length) : rd_T37 xs (i : Int) = xs[i] := by
 unfold rd_T37
 rw [Int.toNat_natCast,List.getD_eq_getElem?_getD,List.getElem?_eq_getElem hi]
 rfl
theorem rdF_get (xs : List S103) (i : Nat) (hi : i < xs.length) : rd_T103 xs (i : Int) = xs[i] := by
 unfold rd_T103
 rw [Int.toNat_natCast,List.getD_eq_getElem?_getD,List.getElem?_eq_getElem hi]
 rfl
theorem grC_eq (l0 : List S33) (l1 : List ByteArray) (a2 a3 a4 a1 : ByteArray) (hl : l0.length ≤ 9223372036854775807) (k : Nat) (hk : l0.length + 1 ≤ k) : Q52.sr08_Class.f k l0 l1 a2 a3 a4 a1 = some (idxI (isC a1) l0) := by
 unfold Q52.sr08_Class.f
 refine gr_scan (isC a1) l0 (fun k x => Q52.sr08_Class.l0 k a1 x l0 l1 a2 a3 a4) (fun k i hi => ?_) (fun k => ?_) l0.length 0 k rfl (Nat.zero_le _) hk (fun j _ h => absurd h (Nat.not_lt_zero _))
 ·
  show Q52.sr08_Class.l0 (k + 1) a1 (i : Int) l0 l1 a2 a3 a4 = _
  rw [Q52.sr08_Class.l0,if_pos (by omega),if_pos (by omega),rdC_get l0 i hi,gr_wrap hi hl]
  unfold isC
  by_cases h : (l0[i].f0).toList = a1.toList
  ·
   rw [if_pos h,if_pos (beq_iff_eq.2 h)]
  ·
   rw [if_neg h,if_neg (fun e => h (beq_iff_eq.1 e))]
 ·
  show Q52.sr08_Class.l0 (k + 1) a1 (l0.length : Int) l0 l1 a2 a3 a4 = _
  rw [Q52.sr08_Class.l0,if_neg (by omega)]
theorem grM_eq (a0_0 a0_1 : ByteArray) (a0_2 a0_3 : Bool) (l0_4 : List ByteArray) (l0_5 : List S103) (l0_6 : List S37) (a1 a2 : ByteArray) (hl : l0_6.length ≤ 9223372036854775807) (k : Nat) (hk : l0_6.length + 1 ≤ k) : Q52.sr08_Method.f k a0_0 a0_1 a0_2 a0_3 l0_4 l0_5 l0_6 a1 a2 = some (idxI (isM a1 a2) l0_6) := by
 unfold Q52.sr08_Method.f
 refine gr_scan (isM a1 a2) l0_6 (fun k x => Q52.sr08_Method.l0 k a1 a2 x a0_0 a0_1 a0_2 a0_3 l0_4 l0_5 l0_6) (fun k i hi => ?_) (fun k => ?_) l0_6.length 0 k rfl (Nat.zero_le _) hk (fun j _ h => absurd h (Nat.not_lt_zero _))
 ·
  show Q52.sr08_Method.l0 (k + 1) a1 a2 (i : Int) a0_0 a0_1 a0_2 a0_3 l0_4 l0_5 l0_6 = _
  rw [Q52.sr08_Method.l0,if_pos (by omega),if_pos (by omega),rdM_get l0_6 i hi,gr_wrap hi hl]
  unfold isM
  by_cases h : (l0_6[i].f0).toList = a1.toList
  ·
   rw [if_pos h,beq_iff_eq.2 h,Bool.true_and]
   by_cases h2 : (l0_6[i].f1).toList = a2.toList
   ·
    rw [if_pos h2,if_pos (beq_iff_eq.2 h2)]
   ·
    rw [if_neg h2,if_neg (fun e => h2 (beq_iff_eq.1 e))]
  ·
   rw [if_neg h,beq_eq_false_iff_ne.2 h,Bool.false_and,if_neg (by decide)]
 ·
  show Q52.sr08_Method.l0 (k + 1) a1 a2 (l0_6.length : Int) a0_0 a0_1 a0_2 a0_3 l0_4 l0_5 l0_6 = _
  rw [Q52.sr08_Method.l0,if_neg (by omega)]
def sr08_Class.f (l0_0 : List S33) (l0_1 : List ByteArray) (a0_2 a0_3 a0_4 a1 : ByteArray) : Option Int := some (idxI (isC a1) l0_0)
theorem sr08_Class.calls (A0_0 : Option Addr) (c0_0 : Nat) (l0_0 : List S33) (A0_1 : Option Addr) (c0_1 : Nat) (l0_1 : List ByteArray) (a0_2 : ByteArray) (a0_3 : ByteArray) (a0_4 : ByteArray) (a1 : ByteArray) (r : Int) (w : World) (hr0_0 : Kd.C k33 w A0_0 l0_0.length l0_0) (hc0_0 : l0_0.length ≤ c0_0) (hr0_1 : Kd.C Kd.string w A0_1 l0_1.length l0_1) (hc0_1 : l0_1.length ≤ c0_1) (h : sr08_Class.f l0_0 l0_1 a0_2 a0_3 a0_4 a1 = some r) :
  Calls Try.prog 68 #[.agg (pG A0_0 l0_0 c0_0 A0_1 l0_1 c0_1 a0_2 a0_3 a0_4),.string a1] w fun e w' => e = .returned (.int .i64 r) ∧ Below w.heap.size w w' :=
 Q52.sr08_Class.calls _ A0_0 c0_0 l0_0 A0_1 c0_1 l0_1 a0_2 a0_3 a0_4 a1 r w hr0_0 hc0_0 hr0_1 hc0_1 ((grC_eq l0_0 l0_1 a0_2 a0_3 a0_4 a1 hr0_0.2.1 _ (Nat.le_refl _)).trans h)
def sr08_Method.f (a0_0 a0_1 : ByteArray) (a0_2 a0_3 : Bool) (l0_4 : List ByteArray) (l0_5 : List S103) (l0_6 : List S37) (a1 a2 : ByteArray) : Option Int := some (idxI (isM a1 a2) l0_6)
theorem sr08_Method.calls (a0_0 : ByteArray) (a0_1 : ByteArray) (a0_2 : Bool) (a0_3 : Bool) (A0_4 : Option Addr) (c0_4 : Nat) (l0_4 : List ByteArray) (A0_5 : Option Addr) (c0_5 : Nat) (l0_5 : List S103) (A0_6 : Option Addr) (c0_6 : Nat) (l0_6 : List S37) (a1 : ByteArray) (a2 : ByteArray) (r : Int) (w : World) (hr0_4 : Kd.C Kd.string w A0_4 l0_4.length l0_4) (hc0_4 : l0_4.length ≤ c0_4) (hr0_5 : Kd.C k103 w A0_5 l0_5.length l0_5) (hc0_5 : l0_5.length ≤ c0_5) (hr0_6 : Kd.C k37 w A0_6 l0_6.length l0_6) (hc0_6 : l0_6.length ≤ c0_6) (h : sr08_Method.f a0_0 a0_1 a0_2 a0_3 l0_4 l0_5 l0_6 a1 a2 = some r) :
  Calls Try.prog 45 #[.agg #[.string a0_0,.string a0_1,.bool a0_2,.bool a0_3,.slice A0_4 l0_4.length c0_4,.slice A0_5 l0_5.length c0_5,.slice A0_6 l0_6.length c0_6],.string a1,.string a2] w fun e w' => e = .returned (.int .i64 r) ∧ Below w.heap.size w w' :=
 Q52.sr08_Method.calls _ a0_0 a0_1 a0_2 a0_3 A0_4 c0_4 l0_4 A0_5 c0_5 l0_5 A0_6 c0_6 l0_6 a1 a2 r w hr0_4 hc0_4 hr0_5 hc0_5 hr0_6 hc0_6 ((grM_eq a0_0 a0_1 a0_2 a0_3 l0_4 l0_5 l0_6 a1 a2 hr0_6.2.1 _ (Nat.le_refl _)).trans h)
theorem ref_class (P : Nat → Prop) (A0 : Option Addr) (c0 : Nat) (l0 : List S33) (A1 : Option Addr) (c1 : Nat) (l1 : List ByteArray) (a2 a3 a4 : ByteArray) (a1 : ByteArray) (w : World) (hs : Kd.F k33 w P A0 l0.length l0) (hc : l0.length ≤ c0) (hr1 : Kd.C Kd.string w A1 l1.length l1) (hc1 : l1.length ≤ c1) :
  Calls Try.prog 44 #[.agg (pG A0 l0 c0 A1 l1 c1 a2 a3 a4),.string a1] w fun e w' => ∃ A4 c4 A5 c5 A6 c6,e = .returned (.tuple #[.agg #[.string (knownC l0 a1).f0,.string (knownC l0 a1).f1,.bool (knownC l0 a1).f2,.bool (knownC l0 a1).f3,.slice A4 (knownC l0 a1).f4.length c4,.slice A5 (knownC l0 a1).f5.length c5,.slice A6 (knownC l0 a1).f6.length c6],.bool (hasC l0 a1)]) ∧ Kd.FK k33 w' (fun k => P k ∨ w.heap.size ≤ k) (knownC l0 a1) [.string (knownC l0 a1).f0,.string (knownC l0 a1).f1,.bool (knownC l0 a1).f2,.bool (knownC l0 a1).f3,.slice A4 (knownC l0 a1).f4.length c4,.slice A5 (knownC l0 a1).f5.length c5,.slice A6 (knownC l0 a1).f6.length c6] ∧ Below w.heap.size w w':=by
 have HN:=aq (fun W (hW : Below w.heap.size w W) => sr08_Class.calls A0 c0 l0 A1 c1 l1 a2 a3 a4 a1 _ W (Kd.C_below (Kd.F_now hs) hW) hc (Kd.C_below hr1 hW) hc1 rfl)
 clear hr1
 rcases idxI_cases (isC a1) l0 with ⟨hn,hf⟩|⟨i,hi,hn,hf⟩
 ·
  rw [hn] at HN
  have hx : knownC l0 a1 = z33:=by unfold knownC;rw [hf];rfl
  have hh : hasC l0 a1 = false:=by unfold hasC;rw [hf];rfl
  rw [hx,hh]
  clear hx hh hf hn hs
  go_enter Try.func44,Try.ntmps44
  go_wp2_with fail
  refine (HN.out _ (below_alloc (below_alloc (Below.refl _ _) _) _)).mono ?_
  rintro e w1 ⟨rfl,hb⟩
  have HB:=aq (below_step (below_alloc (below_alloc (Below.refl w.heap.size w) (Obj.cells (pG A0 l0 c0 A1 l1 c1 a2 a3 a4) 27)) (Obj.cells #[.string ⟨#[]⟩,.string ⟨#[]⟩,.bool false,.bool false,.slice none 0 0,.slice none 0 0,.slice none 0 0] 33)) hb)
  have hz:=blk_below (World.alloc_heap_new (w.alloc (Obj.cells (pG A0 l0 c0 A1 l1 c1 a2 a3 a4) 27)) (Obj.cells #[.string ⟨#[]⟩,.string ⟨#[]⟩,.bool false,.bool false,.slice none 0 0,.slice none 0 0,.slice none 0 0] 33)) hb
  rw [World.size_alloc] at hz
  have HZ:=aq hz
  clear hz
  have hp0:=blk_cell (blk_below (blk_alloc (World.alloc_heap_new w (Obj.cells (pG A0 l0 c0 A1 l1 c1 a2 a3 a4) 27)) (Obj.cells #[.string ⟨#[]⟩,.string ⟨#[]⟩,.bool false,.bool false,.slice none 0 0,.slice none 0 0,.slice none 0 0] 33)) hb) 0
  simp only [List.getElem?_toArray,List.getElem?_cons_zero] at hp0
  obtain ⟨z0,z1,z2,z3,z4,z5,z6⟩:=cells7 HZ.out
  have zf:=blk_frozen HZ.out
  clear hb
  go_wp2_with fail
  exact bodyPost_ret (results_ct rfl _ _ (w.heap.size + 1) 33 #[.string ⟨#[]⟩,.string ⟨#[]⟩,.bool false,.bool false,.slice none 0 0,.slice none 0 0,.slice none 0 0] (0,0) _ rfl (set7_own HZ.out _ _ _ _ _ _ _) Try.underlying33 rfl (by kernel_rfl)) rfl ⟨_,_,_,_,_,_,rfl,zero_class _ _,set7_below HB.out (Nat.le_succ _) _ _ _ _ _ _ _⟩
 ·
  rw [hn] at HN
  have hx : knownC l0 a1 = l0[i]:=by unfold knownC;rw [hf];rfl
  have hh : hasC l0 a1 = true:=by unfold hasC;rw [hf];rfl
  obtain ⟨ad,A4,c4,A5,c5,A6,c6,rfl,hAt,hFK⟩:=ClAt_of hs hi
  rw [hx,hh]
  obtain ⟨x,hxe⟩ : ∃ x,l0[i] = x:=⟨_,rfl⟩
  rw [hxe] at hAt hFK ⊢
  have HAT:=aq hAt
  have HFK:=aq hFK
  have d1 : decide ((i : Int) < 0) = false:=decide_eq_false (by omega)
  have d2 : decide ((i : Int) ≥ 0) = true:=decide_eq_true (by omega)
  have d3 : (0 : Int) ≤ (i : Int):=by omega
  have d4 : (i : Int) < (l0.length : Int):=by omega
  clear hx hh hf hn hs hxe hAt hFK
  go_enter Try.func44,Try.ntmps44
  go_wp2_with fail
  refine (HN.out _ (below_alloc (below_alloc (Below.refl _ _) _) _)).mono ?_
  rintro e w1 ⟨rfl,hb⟩
  have HB:=aq (below_step (below_alloc (below_alloc (Below.refl w.heap.size w) (Obj.cells #[.slice (some ad) l0.length c0,.slice A1 l1.length c1,.string a2,.string a3,.string a4] 27)) (Obj.cells #[.string ⟨#[]⟩,.string ⟨#[]⟩,.bool false,.bool false,.slice none 0 0,.slice none 0 0,.slice none 0 0] 33)) hb)
  have hz:=blk_below (World.alloc_heap_new (w.alloc (Obj.cells #[.slice (some ad) l0.length c0,.slice A1 l1.length c1,.string a2,.string a3,.string a4] 27)) (Obj.cells #[.string ⟨#[]⟩,.string ⟨#[]⟩,.bool false,.bool false,.slice none 0 0,.slice none 0 0,.slice none 0 0] 33)) hb
  rw [World.size_alloc] at hz
  have HZ:=aq hz
  clear hz
  have hp0:=blk_cell (blk_below (blk_alloc (World.alloc_heap_new w (Obj.cells #[.slice (some ad) l0.length c0,.slice A1 l1.length c1,.string a2,.string a3,.string a4] 27)) (Obj.cells #[.string ⟨#[]⟩,.string ⟨#[]⟩,.bool false,.bool false,.slice none 0 0,.slice none 0 0,.slice none 0 0] 33)) hb) 0
  simp only [List.getElem?_toArray,List.getElem?_cons_zero] at hp0
  obtain ⟨z0,z1,z2,z3,z4,z5,z6⟩:=cells7 HZ.out
  have zf:=blk_frozen HZ.out
  clear hb
  obtain ⟨h0,h1,h2,h3,h4,h5,h6⟩:=HAT.out.below HB.out
  go_wp2_with fail
  exact bodyPost_ret (results_ct rfl _ _ (w.heap.size + 1) 33 (zC x A4 c4 A5 c5 A6 c6) (0,0) _ rfl (set7_own HZ.out _ _ _ _ _ _ _) Try.underlying33 rfl (by kernel_rfl)) rfl ⟨_,_,_,_,_,_,rfl,FK_on HFK.out (set7_below HB.out (Nat.le_succ _) _ _ _ _ _ _ _),set7_below HB.out (Nat.le_succ _) _ _ _ _ _ _ _⟩
theorem ref_get (P : Nat → Prop) (A0 : Option Addr) (c0 : Nat) (l0 : List S33) (A1 : Option Addr) (c1 : Nat) (l1 : List ByteArray) (a2 a3 a4 : ByteArray) (b0 b1 b2 : ByteArray) (w : World) (hs : Kd.F k33 w P A0 l0.length l0) (hc : l0.length ≤ c0) (hr1 : Kd.C Kd.string w A1 l1.length l1) (hc1 : l1.length ≤ c1) :
  Calls Try.prog 28 #[.agg (pG A0 l0 c0 A1 l1 c1 a2 a3 a4),.agg #[.string b0,.string b1,.string b2]] w fun e w' => ∃ A5 c5,e = .returned (.tuple #[.agg (zH (getM l0 b0 b1 b2) A5 c5),.bool (hasM l0 b0 b1 b2)]) ∧ Kd.FK k37 w' (fun k => P k ∨ w.heap.size ≤ k) (getM l0 b0 b1 b2) [.string (getM l0 b0 b1 b2).f0,.string (getM l0 b0 b1 b2).f1,.bool (getM l0 b0 b1 b2).f2,.bool (getM l0 b0 b1 b2).f3,.int .i64 (getM l0 b0 b1 b2).f4,.slice A5 (getM l0 b0 b1 b2).f5.length c5] ∧ Below w.heap.size w w':=by
 have HK:=aq (ref_class (fun k => P k ∧ k < w.heap.size) A0 c0 l0 A1 c1 l1 a2 a3 a4 b0 (((w.alloc (Obj.cells (pG A0 l0 c0 A1 l1 c1 a2 a3 a4) 27)).alloc (Obj.cells #[.string b0,.string b1,.string b2] 25)).alloc (Obj.cells zM 37)) (Kd.F_below (Kd.F_bound hs) (below_alloc (below_alloc (below_alloc (Below.refl _ _) _) _) _)) hc (Kd.C_below hr1 (below_alloc (below_alloc (below_alloc (Below.refl _ _) _) _) _)) hc1)
 have HM : Aside0 ((((w.alloc (Obj.cells (pG A0 l0 c0 A1 l1 c1 a2 a3 a4) 27)).alloc (Obj.cells #[.string b0,.string b1,.string b2] 25)).alloc (Obj.cells zM 37)).heap[w.heap.size + 1]? = some (Obj.cells #[.string b0,.string b1,.string b2] 25 (0,0))):=⟨by
  have h:=World.alloc_heap_new (w.alloc (Obj.cells (pG A0 l0 c0 A1 l1 c1 a2 a3 a4) 27)) (Obj.cells #[.string b0,.string b1,.string b2] 25)
  rw [World.size_alloc] at h
  exact blk_alloc h _⟩
 have HZ : Aside0 ((((w.alloc (Obj.cells (pG A0 l0 c0 A1 l1 c1 a2 a3 a4) 27)).alloc (Obj.cells #[.string b0,.string b1,.string b2] 25)).alloc (Obj.cells zM 37)).heap[w.heap.size + 1 + 1]? = some (Obj.cells zM 37 (0,0))):=⟨by
  have h:=World.alloc_heap_new ((w.alloc (Obj.cells (pG A0 l0 c0 A1 l1 c1 a2 a3 a4) 27)).alloc (Obj.cells #[.string b0,.string b1,.string b2] 25)) (Obj.cells zM 37)
  rw [World.size_alloc,World.size_alloc] at h
  exact h⟩
 unfold getM hasM
 obtain ⟨x,hx⟩ : ∃ x,knownC l0 b0 = x:=⟨_,rfl⟩
 have hz : hasC l0 b0 = false → x = z33:=fun h => by rw [← hx];unfold knownC;unfold hasC at h;rw [Option.isSome_eq_false_iff,Option.isNone_iff_eq_none] at h;rw [h];rfl
 obtain ⟨ok,hok⟩ : ∃ ok,hasC l0 b0 = ok:=⟨_,rfl⟩
 rw [hx,hok] at HK
 rw [hok] at hz
 rw [hx]
 clear hx hok hr1 hs
 rcases idxI_cases (isM b1 b2) x.f6 with ⟨hn,hf⟩|⟨i,hi,hn,hf⟩
 ·
  have HN:=aq hn
  have hy : (x.f6.find? (isM b1 b2)).getD z37 = z37:=by rw [hf];rfl
  have hh : (x.f6.find? (isM b1 b2)).isSome = false:=by rw [hf];rfl
  rw [hy,hh]
  clear hy hh hf hn
  clear hz
  cases ok
  ·
   skip
   go_enter Try.func28,Try.ntmps28
   go_wp2_with fail
   refine (HK.out).mono ?_
   rintro e w1 ⟨A4,c4,A5,c5,A6,c6,rfl,hFK,hb1⟩
   have HB1:=aq (below_step (below_alloc (below_alloc (below_alloc (Below.refl w.heap.size w) (Obj.cells (pG A0 l0 c0 A1 l1 c1 a2 a3 a4) 27)) (Obj.cells #[.string b0,.string b1,.string b2] 25)) (Obj.cells zM 37)) hb1)
   have HZ1:=aq (blk_below HZ.out hb1)
   obtain ⟨e0,e1,e2⟩:=cells3 (blk_below HM.out hb1)
   have hl1 : w.heap.size + 1 < w1.heap.size:=blk_lt (blk_below HM.out hb1)
   have hl2 : w.heap.size + 1 + 1 < w1.heap.size:=blk_lt HZ1.out
   have HFK:=aq hFK
   clear hb1 hFK
   go_wp2_with fail
   have HO:=aq (class_opens HFK.out)
   have HNM:=aq (sr08_Method.calls x.f0 x.f1 x.f2 x.f3 A4 c4 x.f4 A5 c5 x.f5 A6 c6 x.f6 b1 b2 _ (w1.alloc (Obj.cells (zC x A4 c4 A5 c5 A6 c6) 33)) (Kd.C_below HO.out.2.1 (below_alloc (Below.refl _ _) _)) HO.out.1 (Kd.C_below HO.out.2.2.2.1 (below_alloc (Below.refl _ _) _)) HO.out.2.2.1 (Kd.C_below HO.out.2.2.2.2.2 (below_alloc (Below.refl _ _) _)) HO.out.2.2.2.2.1 rfl)
   rw [HN.out] at HNM
   refine (HNM.out).mono ?_
   rintro e w2 ⟨rfl,hb2⟩
   have HB12:=aq (below_step (below_alloc (Below.refl w1.heap.size w1) (Obj.cells (zC x A4 c4 A5 c5 A6 c6) 33)) hb2)
   have HB2:=aq (below_step HB1.out HB12.out)
   have HZ2:=aq (blk_below HZ1.out HB12.out)
   obtain ⟨z0,z1,z2,z3,z4,z5⟩:=cells6 HZ2.out
   have zf:=blk_frozen HZ2.out
   obtain ⟨k0,k1,k2,k3,k4,k5,k6⟩:=cells7 (blk_below (World.alloc_heap_new w1 (Obj.cells (zC x A4 c4 A5 c5 A6 c6) 33)) hb2)
   clear hb2 e0 e1 e2 HNM HO k0 k1 k2 k3 k4 k5
   go_wp2_with fail
   exact bodyPost_ret (results_ct rfl _ _ (w.heap.size + 1 + 1) 37 zM (0,0) _ rfl (set6_own HZ2.out _ _ _ _ _ _) Try.underlying37 rfl (by kernel_rfl)) rfl ⟨_,_,rfl,zero_method _ _,set6_below HB2.out (by omega) _ _ _ _ _ _⟩
  ·
   skip
   go_enter Try.func28,Try.ntmps28
   go_wp2_with fail
   refine (HK.out).mono ?_
   rintro e w1 ⟨A4,c4,A5,c5,A6,c6,rfl,hFK,hb1⟩
   have HB1:=aq (below_step (below_alloc (below_alloc (below_alloc (Below.refl w.heap.size w) (Obj.cells (pG A0 l0 c0 A1 l1 c1 a2 a3 a4) 27)) (Obj.cells #[.string b0,.string b1,.string b2] 25)) (Obj.cells zM 37)) hb1)
   have HZ1:=aq (blk_below HZ.out hb1)
   obtain ⟨e0,e1,e2⟩:=cells3 (blk_below HM.out hb1)
   have hl1 : w.heap.size + 1 < w1.heap.size:=blk_lt (blk_below HM.out hb1)
   have hl2 : w.heap.size + 1 + 1 < w1.heap.size:=blk_lt HZ1.out
   have HFK:=aq hFK
   clear hb1 hFK
   go_wp2_with fail
   have HO:=aq (class_opens HFK.out)
   have HNM:=aq (sr08_Method.calls x.f0 x.f1 x.f2 x.f3 A4 c4 x.f4 A5 c5 x.f5 A6 c6 x.f6 b1 b2 _ (w1.alloc (Obj.cells (zC x A4 c4 A5 c5 A6 c6) 33)) (Kd.C_below HO.out.2.1 (below_alloc (Below.refl _ _) _)) HO.out.1 (Kd.C_below HO.out.2.2.2.1 (below_alloc (Below.refl _ _) _)) HO.out.2.2.1 (Kd.C_below HO.out.2.2.2.2.2 (below_alloc (Below.refl _ _) _)) HO.out.2.2.2.2.1 rfl)
   rw [HN.out] at HNM
   refine (HNM.out).mono ?_
   rintro e w2 ⟨rfl,hb2⟩
   have HB12:=aq (below_step (below_alloc (Below.refl w1.heap.size w1) (Obj.cells (zC x A4 c4 A5 c5 A6 c6) 33)) hb2)
   have HB2:=aq (below_step HB1.out HB12.out)
   have HZ2:=aq (blk_below HZ1.out HB12.out)
   obtain ⟨z0,z1,z2,z3,z4,z5⟩:=cells6 HZ2.out
   have zf:=blk_frozen HZ2.out
   obtain ⟨k0,k1,k2,k3,k4,k5,k6⟩:=cells7 (blk_below (World.alloc_heap_new w1 (Obj.cells (zC x A4 c4 A5 c5 A6 c6) 33)) hb2)
   clear hb2 e0 e1 e2 HNM HO k0 k1 k2 k3 k4 k5
   go_wp2_with fail
   exact bodyPost_ret (results_ct rfl _ _ (w.heap.size + 1 + 1) 37 zM (0,0) _ rfl (set6_own HZ2.out _ _ _ _ _ _) Try.underlying37 rfl (by kernel_rfl)) rfl ⟨_,_,rfl,zero_method _ _,set6_below HB2.out (by omega) _ _ _ _ _ _⟩
 ·
  have HN:=aq hn
  have hy : (x.f6.find? (isM b1 b2)).getD z37 = x.f6[i]:=by rw [hf];rfl
  have hh : (x.f6.find? (isM b1 b2)).isSome = true:=by rw [hf];rfl
  rw [hy,hh]
  clear hy hh hf hn
  obtain rfl : ok = true:=by
   cases ok
   ·
    rw [hz rfl] at hi;exact absurd hi (Nat.not_lt_zero _)
   ·
    rfl
  have d2 : decide ((i : Int) < 0) = false:=decide_eq_false (by omega)
  clear hz
  have d3 : (0 : Int) ≤ (i : Int):=by omega
  have d4 : (i : Int) < (x.f6.length : Int):=by omega
  have HI:=aq hi
  obtain ⟨y,hye⟩ : ∃ y,x.f6[i] = y:=⟨_,rfl⟩
  rw [hye]
  have HYE:=aq hye
  clear hye
  go_enter Try.func28,Try.ntmps28
  go_wp2_with fail
  refine (HK.out).mono ?_
  rintro e w1 ⟨A4,c4,A5,c5,A6,c6,rfl,hFK,hb1⟩
  have HB1:=aq (below_step (below_alloc (below_alloc (below_alloc (Below.refl w.heap.size w) (Obj.cells (pG A0 l0 c0 A1 l1 c1 a2 a3 a4) 27)) (Obj.cells #[.string b0,.string b1,.string b2] 25)) (Obj.cells zM 37)) hb1)
  have HZ1:=aq (blk_below HZ.out hb1)
  obtain ⟨e0,e1,e2⟩:=cells3 (blk_below HM.out hb1)
  have hl1 : w.heap.size + 1 < w1.heap.size:=blk_lt (blk_below HM.out hb1)
  have hl2 : w.heap.size + 1 + 1 < w1.heap.size:=blk_lt HZ1.out
  have HFK:=aq hFK
  clear hb1 hFK
  go_wp2_with fail
  have HO:=aq (class_opens HFK.out)
  have HNM:=aq (sr08_Method.calls x.f0 x.f1 x.f2 x.f3 A4 c4 x.f4 A5 c5 x.f5 A6 c6 x.f6 b1 b2 _ (w1.alloc (Obj.cells (zC x A4 c4 A5 c5 A6 c6) 33)) (Kd.C_below HO.out.2.1 (below_alloc (Below.refl _ _) _)) HO.out.1 (Kd.C_below HO.out.2.2.2.1 (below_alloc (Below.refl _ _) _)) HO.out.2.2.1 (Kd.C_below HO.out.2.2.2.2.2 (below_alloc (Below.refl _ _) _)) HO.out.2.2.2.2.1 rfl)
  rw [HN.out] at HNM
  refine (HNM.out).mono ?_
  rintro e w2 ⟨rfl,hb2⟩
  have HB12:=aq (below_step (below_alloc (Below.refl w1.heap.size w1) (Obj.cells (zC x A4 c4 A5 c5 A6 c6) 33)) hb2)
  have HB2:=aq (below_step HB1.out HB12.out)
  have HZ2:=aq (blk_below HZ1.out HB12.out)
  obtain ⟨z0,z1,z2,z3,z4,z5⟩:=cells6 HZ2.out
  have zf:=blk_frozen HZ2.out
  obtain ⟨k0,k1,k2,k3,k4,k5,k6⟩:=cells7 (blk_below (World.alloc_heap_new w1 (Obj.cells (zC x A4 c4 A5 c5 A6 c6) 33)) hb2)
  clear hb2 e0 e1 e2 HNM HO k0 k1 k2 k3 k4 k5
  obtain ⟨ad,B5,d5,hA,hAt,hFM⟩:=MeAt_of (class_methods HFK.out) HI.out
  subst hA
  rw [HYE.out] at hAt hFM
  obtain ⟨h0,h1,h2,h3,h4,h5⟩:=hAt.below HB12.out
  have HFM:=aq hFM
  clear hAt hFM
  go_wp2_with fail
  exact bodyPost_ret (results_ct rfl _ _ (w.heap.size + 1 + 1) 37 (zH y B5 d5) (0,0) _ rfl (set6_own HZ2.out _ _ _ _ _ _) Try.underlying37 rfl (by kernel_rfl)) rfl ⟨_,_,rfl,Foot.mono (Foot.step HFM.out (fun k hk hlt => (set6_far (by rcases hk with hk|hk;exact Nat.ne_of_lt (by omega);simp only [World.size_alloc] at hk;omega) _ _ _ _ _ _).trans (HB12.out.block k hlt))) (fun k hk => hk.elim (fun h => .inl h.1) (fun h => .inr (by simp only [World.size_alloc] at h;omega))),set6_below HB2.out (by omega) _ _ _ _ _ _⟩
def hasFd (l : List S33) (c n : ByteArray) : Bool := ((knownC l c).f5.find? (isF n)).isSome
theorem cells2f {w : World} {g : Nat} {t : TypeId} {x y : Value} (h : w.heap[g]? = some (Obj.cells #[x, y] t (0, 0))) : w.cell? ⟨g, 0, none⟩ = some x ∧ w.cell? ⟨g, 1, none⟩ = some y := ⟨blk_cell h 0, blk_cell h 1⟩
theorem field_at {w : World} {A : Option Addr} {xs : List S103} (h : Kd.C k103 w A xs.length xs) {i : Nat} (hi : i < xs.length) : ∃ ad, A = some ad ∧ w.cell? (ad.add (i * 4)) = some (.string xs[i].f0) ∧ w.cell? ⟨(ad.add (i * 4)).block, (ad.add (i * 4)).off + 1, none⟩ = some (.int .i64 xs[i].f1.f0) ∧ w.cell? ⟨(ad.add (i * 4)).block, (ad.add (i * 4)).off + 2, none⟩ = some (.string xs[i].f1.f1) ∧ w.cell? ⟨(ad.add (i * 4)).block, (ad.add (i * 4)).off + 3, none⟩ = some (.bool xs[i].f2) ∧ k103.K w xs[i] [.string xs[i].f0, .int .i64 xs[i].f1.f0, .string xs[i].f1.f1, .bool xs[i].f2] := by
 obtain ⟨ad,e,h0,h1,h2,h3⟩:=at_T103 h (i : Int) (by omega) (by omega)
 rw [rdF_get xs i hi,Int.toNat_natCast] at h0 h1 h2 h3
 exact ⟨ad,e,h0,h1,h2,h3,k103_mk w xs[i]⟩
theorem index_field (p : S103 → Bool) (g : Nat) (A : Option Addr) (c : Nat) (xs : List (S103)) (w : World) (hC : Kd.C k103 w A xs.length xs) (hc : xs.length ≤ c)
  (hp : ∀ (x : S103) (cs : List Value) (W : World),x ∈ xs → Below w.heap.size w W → k103.K W x cs → Calls Try.prog 108 (#[.agg cs.toArray,.pointer (some ⟨g,0,none⟩)]) W fun e w' => e = .returned (.bool (p x)) ∧ Below W.heap.size W w') :
  Calls Try.prog 107 #[.slice A xs.length c,.func (.func 108) #[] #[.pointer (some ⟨g,0,none⟩)]] w fun e w' => e = .returned (.int .i64 (idxI p xs)) ∧ Below w.heap.size w w':=by
 have HC:=aq hC
 have HP:=aq hp
 have hmx:=hC.2.1
 clear hC hp
 go_enter Try.func107,Try.ntmps107
 go_wp2
 go_loopg [8] xs.length (fun kq v8 wr => ∃ i : Nat,v8 = .int .i64 (i : Int) ∧ i + kq = xs.length ∧ Aside0 (∀ j (hj : j < xs.length),j < i → p xs[j] = false) ∧ Aside0 (Below w.heap.size w wr))
 case atStart => exact ⟨0,rfl,by omega,⟨fun j _ h => absurd h (Nat.not_lt_zero j)⟩,⟨Below.refl _ _⟩⟩
 case round =>
  obtain ⟨i,rfl,hi,HA,HB⟩:=hrel
  by_cases hlt : i < xs.length
  ·
   obtain ⟨ad,rfl,h0,h1,h2,h3,hK⟩:=field_at (Kd.C_below HC.out HB.out) hlt
   have HPX:=aq (HP.out xs[i] _ wr (List.getElem_mem hlt) HB.out hK)
   clear hK
   have hd : decide ((i : Int) < (xs.length : Int)) = true:=decide_eq_true (by omega)
   cases hbd : p xs[i] with
   | true =>
    have HBD:=aq hbd
    rw [hbd] at HPX
    clear hbd
    go_wp2_with (go_at_call 108;refine HPX.out.mono ?_;rintro e w1 ⟨rfl,hb⟩;have HB1:=aq (HB.out.trans (hb.mono HB.out.size)))
    refine bodyPost_ret (results_tmp rfl _ _ _) rfl ⟨?_,HB1.out⟩
    rw [idxI_at hlt HBD.out HA.out]
    rfl
   | false =>
    have HBF:=aq hbd
    rw [hbd] at HPX
    clear hbd
    go_wp2_with (go_at_call 108;refine HPX.out.mono ?_;rintro e w1 ⟨rfl,hb⟩;have HB1:=aq (HB.out.trans (hb.mono HB.out.size)))
    go_roundg (gk - 1)
    case measure => omega
    case rel =>
     refine ⟨i + 1,by simp,by omega,⟨fun j hj hji => ?_⟩,HB1⟩
     by_cases e : j = i
     ·
      subst e
      exact HBF.out
     ·
      exact HA.out j hj (by omega)
  ·
   have hd : decide ((i : Int) < (xs.length : Int)) = false:=decide_eq_false (by omega)
   have HF : Aside0 (∀ x ∈ xs,p x = false):=⟨fun x hx => by
    obtain ⟨j,hj,rfl⟩:=List.mem_iff_getElem.1 hx
    exact HA.out j hj (by omega)⟩
   go_wp2
   go_ret
   rw [idxI_no HF.out]
   exact ⟨rfl,HB.out⟩
theorem field_lit (x : S103) (cs : List Value) (g : Nat) (name : ByteArray) (w : World) (hK : k103.K w x cs) (hs : w.cell? ⟨g, 0, none⟩ = some (.string name)) :
  Calls Try.prog 108 #[.agg cs.toArray,.pointer (some ⟨g,0,none⟩)] w fun e w' => e = .returned (.bool (isF name x)) ∧ Below w.heap.size w w':=by
 obtain rfl:=k103_open hK
 have hg:=cell_lt hs
 clear hK
 go_enter Try.func108,Try.ntmps108
 go_wp2
 go_ret
 exact ⟨rfl,by first|exact below_alloc (Below.refl _ _) _|exact Below.refl _ _⟩
def norm_Field.f (a0_0 a0_1 : ByteArray) (a0_2 a0_3 : Bool) (l0_4 : List ByteArray) (l0_5 : List S103) (l0_6 : List S37) (a1 : ByteArray) : Option Int := some (idxI (isF a1) l0_5)
theorem norm_Field.calls (a0_0 : ByteArray) (a0_1 : ByteArray) (a0_2 : Bool) (a0_3 : Bool) (A0_4 : Option Addr) (c0_4 : Nat) (l0_4 : List ByteArray) (A0_5 : Option Addr) (c0_5 : Nat) (l0_5 : List S103) (A0_6 : Option Addr) (c0_6 : Nat) (l0_6 : List S37) (a1 : ByteArray) (r : Int) (w : World) (hr0_4 : Kd.C Kd.string w A0_4 l0_4.length l0_4) (hc0_4 : l0_4.length ≤ c0_4) (hr0_5 : Kd.C k103 w A0_5 l0_5.length l0_5) (hc0_5 : l0_5.length ≤ c0_5) (hr0_6 : Kd.C k37 w A0_6 l0_6.length l0_6) (hc0_6 : l0_6.length ≤ c0_6) (h : norm_Field.f a0_0 a0_1 a0_2 a0_3 l0_4 l0_5 l0_6 a1 = some r) :
  Calls Try.prog 101 #[.agg #[.string a0_0,.string a0_1,.bool a0_2,.bool a0_3,.slice A0_4 l0_4.length c0_4,.slice A0_5 l0_5.length c0_5,.slice A0_6 l0_6.length c0_6],.string a1] w fun e w' => e = .returned (.int .i64 r) ∧ Below w.heap.size w w':=by
 obtain rfl : idxI (isF a1) l0_5 = r:=Option.some.inj h
 have HC:=aq hr0_5
 clear h hr0_4 hr0_5 hr0_6
 go_enter Try.func101,Try.ntmps101
 go_wp2_with fail
 refine (index_field (isF a1) (w.heap.size + 1) A0_5 c0_5 l0_5 _ (Kd.C_below HC.out (below_alloc (below_alloc (Below.refl _ _) _) _)) hc0_5 (fun x cs W _ hb hK => field_lit x cs _ a1 W hK ((hb.cell (by simp)).trans (by simp)))).mono ?_
 rintro e w1 ⟨rfl,hb⟩
 go_wp2_with fail
 exact bodyPost_ret (results_tmp rfl _ _ _) rfl ⟨rfl,below_step (below_alloc (below_alloc (Below.refl _ _) _) _) hb⟩
theorem ffield_lit (P : Nat → Prop) (A0 : Option Addr) (c0 : Nat) (l0 : List S33) (A1 : Option Addr) (c1 : Nat) (l1 : List ByteArray) (a2 a3 a4 : ByteArray) (pb mb : Nat) (n s : ByteArray) (w : World) (hs : Kd.F k33 w P A0 l0.length l0) (hc : l0.length ≤ c0) (hr1 : Kd.C Kd.string w A1 l1.length l1) (hc1 : l1.length ≤ c1) (hpb : w.heap[pb]? = some (Obj.cells (pG A0 l0 c0 A1 l1 c1 a2 a3 a4) 27 (0, 0))) (u0 : Value) (hmb : w.heap[mb]? = some (Obj.cells #[u0, .string n] 44 (0, 0))) :
  Calls Try.prog 100 #[.string s,.pointer (some ⟨pb,0,none⟩),.pointer (some ⟨mb,0,none⟩)] w fun e w' => e = .returned (.bool (hasFd l0 s n)) ∧ Below w.heap.size w w':=by
 obtain ⟨p0,p1,p2,p3,p4⟩:=cells5 hpb
 obtain ⟨m0,m1⟩:=cells2f hmb
 have HK:=aq (fun W (hW : Below w.heap.size w W) => find_known P A0 c0 l0 A1 c1 l1 a2 a3 a4 s W (Kd.F_below hs hW) hc (Kd.C_below hr1 hW) hc1)
 have HB:=aq (below_drew1 (Below.refl w.heap.size w))
 have HN : Aside0 (hasFd l0 s n = decide (idxI (isF n) (knownC l0 s).f5 ≥ 0)):=⟨by
  unfold hasFd
  rcases idxI_cases (isF n) (knownC l0 s).f5 with ⟨h1,h2⟩|⟨i,hi,h1,h2⟩
  ·
   rw [h1,h2];rfl
  ·
   rw [h1,h2,decide_eq_true (by omega)];rfl⟩
 rw [HN.out]
 obtain ⟨x,hx⟩ : ∃ x,knownC l0 s = x:=⟨_,rfl⟩
 rw [hx] at HK ⊢
 clear hx hs hr1 HN
 have HP:=aq hpb
 have HM:=aq hmb
 clear hpb hmb
 go_enter Try.func100,Try.ntmps100
 go_wp2_with fail
 go_region_held3 (fun w' => w'.cell? ⟨pb,0,none⟩ = some (.slice A0 l0.length c0) ∧ w'.cell? ⟨pb,1,none⟩ = some (.slice A1 l1.length c1) ∧ w'.cell? ⟨pb,2,none⟩ = some (.string a2) ∧ w'.cell? ⟨pb,3,none⟩ = some (.string a3) ∧ w'.cell? ⟨pb,4,none⟩ = some (.string a4) ∧ w'.cell? ⟨mb,1,none⟩ = some (.string n)) (first|exact ⟨p0,p1,p2,p3,p4,m1⟩) (first
  | (go_at_call 35;refine (HK.out _ HB.out).mono ?_;rintro e w2 ⟨A4,c4,A5,c5,A6,c6,rfl,hFK,hb⟩;have HO:=aq (class_opens hFK);have HB2:=aq (below_step HB.out hb);clear hFK hb p0 p1 p2 p3 p4 m0 m1;obtain ⟨p0,p1,p2,p3,p4⟩:=cells5 (blk_below HP.out HB2.out);obtain ⟨m0,m1⟩:=cells2f (blk_below HM.out HB2.out))
  | (go_at_call 101;refine (norm_Field.calls x.f0 x.f1 x.f2 x.f3 _ _ x.f4 _ _ x.f5 _ _ x.f6 n _ _ HO.out.2.1 HO.out.1 HO.out.2.2.2.1 HO.out.2.2.1 HO.out.2.2.2.2.2 HO.out.2.2.2.2.1 rfl).mono ?_;rintro e w3 ⟨rfl,hb⟩;have HB3:=aq (below_step HB2.out hb);clear hb p0 p1 p2 p3 p4 m0 m1;obtain ⟨p0,p1,p2,p3,p4⟩:=cells5 (blk_below HP.out HB3.out);obtain ⟨m0,m1⟩:=cells2f (blk_below HM.out HB3.out)))
 all_goals go_wp2_with fail
 all_goals exact bodyPost_ret (results_tmp rfl _ _ _) rfl ⟨rfl,HB3.out⟩
theorem findex_str (p : ByteArray → Bool) (pb mb : Nat) (A : Option Addr) (c : Nat) (xs : List ByteArray) (w : World) (hC : Kd.C Kd.string w A xs.length xs) (hc : xs.length ≤ c)
  (hp : ∀ (x : ByteArray) (W : World),Below w.heap.size w W → Calls Try.prog 100 #[.string x,.pointer (some ⟨pb,0,none⟩),.pointer (some ⟨mb,0,none⟩)] W fun e w' => e = .returned (.bool (p x)) ∧ Below W.heap.size W w') :
  Calls Try.prog 82 #[.slice A xs.length c,.func (.func 100) #[] #[.pointer (some ⟨pb,0,none⟩),.pointer (some ⟨mb,0,none⟩)]] w fun e w' => e = .returned (.int .i64 (idxI p xs)) ∧ Below w.heap.size w w':=by
 have HC:=aq hC
 have HP:=aq hp
 have hmx:=hC.2.1
 clear hC hp
 go_enter Try.func82,Try.ntmps82
 go_wp2
 go_loopg [8] xs.length (fun kq v8 wr => ∃ i : Nat,v8 = .int .i64 (i : Int) ∧ i + kq = xs.length ∧ Aside0 (∀ j (hj : j < xs.length),j < i → p xs[j] = false) ∧ Aside0 (Below w.heap.size w wr))
 case atStart => exact ⟨0,rfl,by omega,⟨fun j _ h => absurd h (Nat.not_lt_zero j)⟩,⟨Below.refl _ _⟩⟩
 case round =>
  obtain ⟨i,rfl,hi,HA,HB⟩:=hrel
  by_cases hlt : i < xs.length
  ·
   obtain ⟨ad,rfl,h0⟩:=Kd.at_string (Kd.C_below HC.out HB.out) (i : Int) (by omega) (by omega)
   have hx : rdOf ByteArray.empty xs (i : Int) = xs[i]:=by
    unfold rdOf
    rw [Int.toNat_natCast,List.getD_eq_getElem?_getD,List.getElem?_eq_getElem hlt]
    rfl
   rw [hx,Int.toNat_natCast] at h0
   have HPX:=aq (HP.out xs[i] wr HB.out)
   have hd : decide ((i : Int) < (xs.length : Int)) = true:=decide_eq_true (by omega)
   clear hx
   cases hbd : p xs[i] with
   | true =>
    have HBD:=aq hbd
    rw [hbd] at HPX
    clear hbd
    go_wp2_with (go_at_call 100;refine HPX.out.mono ?_;rintro e w1 ⟨rfl,hb⟩;have HB1:=aq (HB.out.trans (hb.mono HB.out.size)))
    refine bodyPost_ret (results_tmp rfl _ _ _) rfl ⟨?_,HB1.out⟩
    rw [idxI_at hlt HBD.out HA.out]
    rfl
   | false =>
    have HBF:=aq hbd
    rw [hbd] at HPX
    clear hbd
    go_wp2_with (go_at_call 100;refine HPX.out.mono ?_;rintro e w1 ⟨rfl,hb⟩;have HB1:=aq (HB.out.trans (hb.mono HB.out.size)))
    go_roundg (gk - 1)
    case measure => omega
    case rel =>
     refine ⟨i + 1,by simp,by omega,⟨fun j hj hji => ?_⟩,HB1⟩
     by_cases e : j = i
     ·
      subst e
      exact HBF.out
     ·
      exact HA.out j hj (by omega)
  ·
   have hd : decide ((i : Int) < (xs.length : Int)) = false:=decide_eq_false (by omega)
   have HF : Aside0 (∀ x ∈ xs,p x = false):=⟨fun x hx => by
    obtain ⟨j,hj,rfl⟩:=List.mem_iff_getElem.1 hx
    exact HA.out j hj (by omega)⟩
   go_wp2
   go_ret
   rw [idxI_no HF.out]
   exact ⟨rfl,HB.out⟩
theorem ffind_among (p : ByteArray → Bool) (pb mb : Nat) (A : Option Addr) (c : Nat) (xs : List ByteArray) (w : World) (hC : Kd.C Kd.string w A xs.length xs) (hc : xs.length ≤ c)
  (hp : ∀ (x : ByteArray) (W : World),Below w.heap.size w W → Calls Try.prog 100 #[.string x,.pointer (some ⟨pb,0,none⟩),.pointer (some ⟨mb,0,none⟩)] W fun e w' => e = .returned (.bool (p x)) ∧ Below W.heap.size W w') :
  Calls Try.prog 56 #[.slice A xs.length c,.func (.func 100) #[] #[.pointer (some ⟨pb,0,none⟩),.pointer (some ⟨mb,0,none⟩)]] w fun e w' => e = .returned (.tuple #[.string ((xs.find? p).getD ⟨#[]⟩),.bool (xs.find? p).isSome]) ∧ Below w.heap.size w w':=by
 have HI:=aq (findex_str p pb mb A c xs w hC hc hp)
 have HC:=aq hC
 clear hp hC
 rcases idxI_cases p xs with ⟨hn,hf⟩|⟨i,hi,hn,hf⟩
 ·
  rw [hn] at HI
  rw [hf]
  clear hn hf
  go_enter Try.func56,Try.ntmps56
  go_wp2_with fail
  refine HI.out.mono ?_
  rintro e w1 ⟨rfl,hb⟩
  have HB:=aq hb
  clear hb
  go_wp2_with fail
  exact bodyPost_ret (results_tmp2 rfl _ _ _) rfl ⟨rfl,HB.out⟩
 ·
  rw [hn] at HI
  rw [hf]
  obtain ⟨ad,rfl,h0⟩:=Kd.at_string HC.out (i : Int) (by omega) (by omega)
  have hx : rdOf ByteArray.empty xs (i : Int) = xs[i]:=by
   unfold rdOf
   rw [Int.toNat_natCast,List.getD_eq_getElem?_getD,List.getElem?_eq_getElem hi]
   rfl
  rw [hx,Int.toNat_natCast] at h0
  obtain ⟨y,hy⟩ : ∃ y,xs[i] = y:=⟨_,rfl⟩
  rw [hy] at h0 ⊢
  have H0:=aq h0
  have d2 : decide ((i : Int) ≥ 0) = true:=decide_eq_true (by omega)
  have d3 : (0 : Int) ≤ (i : Int):=by omega
  have d4 : (i : Int) < (xs.length : Int):=by omega
  clear hn hf hx hy h0
  go_enter Try.func56,Try.ntmps56
  go_wp2_with fail
  refine HI.out.mono ?_
  rintro e w1 ⟨rfl,hb⟩
  have HB:=aq hb
  have h1:=(hb.cell (cell_lt H0.out)).trans H0.out
  clear hb
  go_wp2_with fail
  exact bodyPost_ret (results_tmp2 rfl _ _ _) rfl ⟨rfl,HB.out⟩
def fldF (l0 : List S33) (xs : List ByteArray) (n : ByteArray) : ByteArray × ByteArray × Bool :=
 match xs.find? (fun s => hasFd l0 s n) with
 | none => (⟨#[]⟩,⟨#[]⟩,false)
 | some s => (s,n,true)
theorem set2_own {w : World} {R : Nat} {t : TypeId} {u0 u1 : Value} (h : w.heap[R]? = some (Obj.cells #[u0, u1] t (0, 0))) (v0 v1 : Value) : ((w.setCell ⟨R, 0, none⟩ v0).setCell ⟨R, 1, none⟩ v1).heap[R]? = some (Obj.cells #[v0, v1] t (0, 0)) :=
 (blk_put (cs:=#[v0,u1]) (blk_put (cs:=#[u0,u1]) h 0 v0 rfl) 1 v1 rfl)
theorem set2_below {w0 w : World} {R : Nat} (h : Below w0.heap.size w0 w) (hR : w0.heap.size ≤ R) (v0 v1 : Value) : Below w0.heap.size w0 ((w.setCell ⟨R, 0, none⟩ v0).setCell ⟨R, 1, none⟩ v1) := below_set (below_set h hR) hR
def find_Field.f (l0_0 : List S33) (l0_1 : List ByteArray) (a0_2 a0_3 a0_4 b0 b1 : ByteArray) : Option (ByteArray × ByteArray × Bool) := (hier_Supers.f l0_0 l0_1 a0_2 a0_3 a0_4 b0).map fun xs => fldF l0_0 xs b1
theorem find_Field.calls (A0_0 : Option Addr) (c0_0 : Nat) (l0_0 : List S33) (A0_1 : Option Addr) (c0_1 : Nat) (l0_1 : List ByteArray) (a0_2 : ByteArray) (a0_3 : ByteArray) (a0_4 : ByteArray) (b0 b1 : ByteArray) (r1 r2 : ByteArray) (r3 : Bool) (w : World) (hr0_0 : Kd.C k33 w A0_0 l0_0.length l0_0) (hc0_0 : l0_0.length ≤ c0_0) (hr0_1 : Kd.C Kd.string w A0_1 l0_1.length l0_1) (hc0_1 : l0_1.length ≤ c0_1) (h : find_Field.f l0_0 l0_1 a0_2 a0_3 a0_4 b0 b1 = some (r1, r2, r3)) :
  Calls Try.prog 90 #[.agg (pG A0_0 l0_0 c0_0 A0_1 l0_1 c0_1 a0_2 a0_3 a0_4),.agg #[.string b0,.string b1]] w fun e w' => e = .returned (.tuple #[.agg #[.string r1,.string r2],.bool r3]) ∧ Below w.heap.size w w':=by
 unfold find_Field.f at h
 obtain ⟨xs,hx,hd⟩:=Option.map_eq_some_iff.1 h
 have HS:=aq (fun W (hW : Below w.heap.size w W) => hier_Supers.calls A0_0 c0_0 l0_0 A0_1 c0_1 l0_1 a0_2 a0_3 a0_4 b0 xs W (Kd.C_below hr0_0 hW) hc0_0 (Kd.C_below hr0_1 hW) hc0_1 hx)
 have HR0:=aq (F_of_C heapC hr0_0)
 have HR1:=aq hr0_1
 have hp : (((w.alloc (Obj.cells (pG A0_0 l0_0 c0_0 A0_1 l0_1 c0_1 a0_2 a0_3 a0_4) 27)).alloc (Obj.cells #[.string b0,.string b1] 44)).alloc (Obj.cells #[.string ⟨#[]⟩,.string ⟨#[]⟩] 44)).heap[w.heap.size]? = some (Obj.cells (pG A0_0 l0_0 c0_0 A0_1 l0_1 c0_1 a0_2 a0_3 a0_4) 27 (0,0)):=blk_alloc (blk_alloc (World.alloc_heap_new w (Obj.cells (pG A0_0 l0_0 c0_0 A0_1 l0_1 c0_1 a0_2 a0_3 a0_4) 27)) _) _
 have hm : (((w.alloc (Obj.cells (pG A0_0 l0_0 c0_0 A0_1 l0_1 c0_1 a0_2 a0_3 a0_4) 27)).alloc (Obj.cells #[.string b0,.string b1] 44)).alloc (Obj.cells #[.string ⟨#[]⟩,.string ⟨#[]⟩] 44)).heap[w.heap.size + 1]? = some (Obj.cells #[.string b0,.string b1] 44 (0,0)):=by
  have h:=World.alloc_heap_new (w.alloc (Obj.cells (pG A0_0 l0_0 c0_0 A0_1 l0_1 c0_1 a0_2 a0_3 a0_4) 27)) (Obj.cells #[.string b0,.string b1] 44)
  rw [World.size_alloc] at h
  exact blk_alloc h _
 have hz : (((w.alloc (Obj.cells (pG A0_0 l0_0 c0_0 A0_1 l0_1 c0_1 a0_2 a0_3 a0_4) 27)).alloc (Obj.cells #[.string b0,.string b1] 44)).alloc (Obj.cells #[.string ⟨#[]⟩,.string ⟨#[]⟩] 44)).heap[w.heap.size + 1 + 1]? = some (Obj.cells #[.string ⟨#[]⟩,.string ⟨#[]⟩] 44 (0,0)):=by
  have h:=World.alloc_heap_new ((w.alloc (Obj.cells (pG A0_0 l0_0 c0_0 A0_1 l0_1 c0_1 a0_2 a0_3 a0_4) 27)).alloc (Obj.cells #[.string b0,.string b1] 44)) (Obj.cells #[.string ⟨#[]⟩,.string ⟨#[]⟩] 44)
  rw [World.size_alloc,World.size_alloc] at h
  exact h
 have HB0:=aq (below_alloc (below_alloc (below_alloc (Below.refl w.heap.size w) (Obj.cells (pG A0_0 l0_0 c0_0 A0_1 l0_1 c0_1 a0_2 a0_3 a0_4) 27)) (Obj.cells #[.string b0,.string b1] 44)) (Obj.cells #[.string ⟨#[]⟩,.string ⟨#[]⟩] 44))
 have HP:=aq hp
 have HM:=aq hm
 have HZ:=aq hz
 clear h hx hr0_0 hr0_1 hp hm hz
 have key : ∀ r : ByteArray × ByteArray × Bool,fldF l0_0 xs b1 = r → r = (r1,r2,r3):=fun r e => by rw [← e];exact hd
 clear hd
 cases hf : xs.find? (fun s => hasFd l0_0 s b1) with
 | none =>
  have hk:=key (⟨#[]⟩,⟨#[]⟩,false) (by unfold fldF;rw [hf])
  simp only [Prod.mk.injEq] at hk
  obtain ⟨rfl,rfl,rfl⟩:=hk
  have HF:=aq hf
  clear key hf
  go_enter Try.func90,Try.ntmps90
  go_wp2_with fail
  refine (HS.out _ HB0.out).mono ?_
  rintro e w1 ⟨v,rfl,hR,hb⟩
  obtain ⟨A,c,rfl,hcx,hCx⟩:=Kd.R_reads hR
  have HB1:=aq (below_step HB0.out hb)
  have HP1:=aq (blk_below HP.out hb)
  have HM1:=aq (blk_below HM.out hb)
  have HZ1:=aq (blk_below HZ.out hb)
  have HCX:=aq hCx
  clear hb hR hCx
  obtain ⟨m0,m1⟩:=cells2f HM1.out
  go_wp2_with fail
  have HA:=aq (ffind_among (fun s => hasFd l0_0 s b1) w.heap.size (w.heap.size + 1) A c xs w1 HCX.out hcx (fun x W hW => ffield_lit (fun k => k < w.heap.size) A0_0 c0_0 l0_0 A0_1 c0_1 l0_1 a0_2 a0_3 a0_4 w.heap.size (w.heap.size + 1) b1 x W (Kd.F_below HR0.out (below_step HB1.out hW)) hc0_0 (Kd.C_below HR1.out (below_step HB1.out hW)) hc0_1 (blk_below HP1.out hW) _ (blk_below HM1.out hW)))
  rw [HF.out] at HA
  refine HA.out.mono ?_
  rintro e w2 ⟨rfl,hb⟩
  have HB2:=aq (below_step HB1.out hb)
  have HZ2:=aq (blk_below HZ1.out hb)
  obtain ⟨m0,m1⟩:=cells2f (blk_below HM1.out hb)
  obtain ⟨z0,z1⟩:=cells2f HZ2.out
  have zf:=blk_frozen HZ2.out
  clear hb HA
  go_wp2_with fail
  exact bodyPost_ret (results_ct rfl _ _ (w.heap.size + 1 + 1) 44 #[.string ⟨#[]⟩,.string ⟨#[]⟩] (0,0) _ rfl (set2_own HZ2.out _ _) Try.underlying44 rfl (by kernel_rfl)) rfl ⟨rfl,set2_below HB2.out (by omega) _ _⟩
 | some s =>
  have hk:=key (s,b1,true) (by unfold fldF;rw [hf])
  simp only [Prod.mk.injEq] at hk
  obtain ⟨rfl,rfl,rfl⟩:=hk
  have HF:=aq hf
  clear key hf
  go_enter Try.func90,Try.ntmps90
  go_wp2_with fail
  refine (HS.out _ HB0.out).mono ?_
  rintro e w1 ⟨v,rfl,hR,hb⟩
  obtain ⟨A,c,rfl,hcx,hCx⟩:=Kd.R_reads hR
  have HB1:=aq (below_step HB0.out hb)
  have HP1:=aq (blk_below HP.out hb)
  have HM1:=aq (blk_below HM.out hb)
  have HZ1:=aq (blk_below HZ.out hb)
  have HCX:=aq hCx
  clear hb hR hCx
  obtain ⟨m0,m1⟩:=cells2f HM1.out
  go_wp2_with fail
  have HA:=aq (ffind_among (fun s => hasFd l0_0 s b1) w.heap.size (w.heap.size + 1) A c xs w1 HCX.out hcx (fun x W hW => ffield_lit (fun k => k < w.heap.size) A0_0 c0_0 l0_0 A0_1 c0_1 l0_1 a0_2 a0_3 a0_4 w.heap.size (w.heap.size + 1) b1 x W (Kd.F_below HR0.out (below_step HB1.out hW)) hc0_0 (Kd.C_below HR1.out (below_step HB1.out hW)) hc0_1 (blk_below HP1.out hW) _ (blk_below HM1.out hW)))
  rw [HF.out] at HA
  refine HA.out.mono ?_
  rintro e w2 ⟨rfl,hb⟩
  have HB2:=aq (below_step HB1.out hb)
  have HZ2:=aq (blk_below HZ1.out hb)
  obtain ⟨m0,m1⟩:=cells2f (blk_below HM1.out hb)
  obtain ⟨z0,z1⟩:=cells2f HZ2.out
  have zf:=blk_frozen HZ2.out
  clear hb HA
  go_wp2_with fail
  exact bodyPost_ret (results_ct rfl _ _ (w.heap.size + 1 + 1) 44 #[.string _,.string _] (0,0) _ rfl (set2_own HZ2.out _ _) Try.underlying44 rfl (by kernel_rfl)) rfl ⟨rfl,set2_below HB2.out (by omega) _ _⟩
def mayS (x : S37) : Bool := x.f2
theorem static_lit (x : S37) (cs : List Value) (w : World) (hK : k37.K w x cs) :
  Calls Try.prog 103 #[.agg cs.toArray] w fun e w' => e = .returned (.bool (mayS x)) ∧ Below w.heap.size w w':=by
 obtain ⟨A5,c5,rfl,_⟩:=k37_open hK
 clear hK
 unfold mayS
 go_enter Try.func103,Try.ntmps103
 go_wp2
 go_ret
 exact ⟨rfl,by first|exact below_alloc (Below.refl _ _) _|exact Below.refl _ _⟩
def decS (l0 : List S33) (xs : List ByteArray) (n d : ByteArray) : ByteArray × ByteArray × ByteArray × Bool :=
 match xs.find? (fun s => hasM l0 s n d) with
 | none => (⟨#[]⟩,⟨#[]⟩,⟨#[]⟩,false)
 | some s => if mayS (getM l0 s n d) = true then (s,n,d,true) else (⟨#[]⟩,⟨#[]⟩,⟨#[]⟩,false)
theorem find_declaredS (A0 : Option Addr) (c0 : Nat) (l0 : List S33) (A1 : Option Addr) (c1 : Nat) (l1 : List ByteArray) (a2 a3 a4 : ByteArray) (A : Option Addr) (c : Nat) (xs : List ByteArray) (cl n d : ByteArray) (w : World) (hr0 : Kd.C k33 w A0 l0.length l0) (hc0 : l0.length ≤ c0) (hr1 : Kd.C Kd.string w A1 l1.length l1) (hc1 : l1.length ≤ c1) (hC : Kd.C Kd.string w A xs.length xs) (hc : xs.length ≤ c) :
  Calls Try.prog 33 #[.agg (pG A0 l0 c0 A1 l1 c1 a2 a3 a4),.slice A xs.length c,.agg #[.string cl,.string n,.string d],.func (.func 103) #[] #[]] w fun e w' => e = .returned (.tuple #[.agg #[.string (decS l0 xs n d).1,.string (decS l0 xs n d).2.1,.string (decS l0 xs n d).2.2.1],.bool (decS l0 xs n d).2.2.2]) ∧ Below w.heap.size w w':=by
 have HC0:=aq (F_of_C heapC hr0)
 have HC1:=aq hr1
 have HP : Aside0 ((((w.alloc (Obj.cells (pG A0 l0 c0 A1 l1 c1 a2 a3 a4) 27)).alloc (Obj.cells #[.string cl,.string n,.string d] 25)).alloc (Obj.cells zR 25)).heap[w.heap.size]? = some (Obj.cells (pG A0 l0 c0 A1 l1 c1 a2 a3 a4) 27 (0,0))):=⟨blk_alloc (blk_alloc (World.alloc_heap_new w (Obj.cells (pG A0 l0 c0 A1 l1 c1 a2 a3 a4) 27)) _) _⟩
 have HM : Aside0 ((((w.alloc (Obj.cells (pG A0 l0 c0 A1 l1 c1 a2 a3 a4) 27)).alloc (Obj.cells #[.string cl,.string n,.string d] 25)).alloc (Obj.cells zR 25)).heap[w.heap.size + 1]? = some (Obj.cells #[.string cl,.string n,.string d] 25 (0,0))):=⟨by
  have h:=World.alloc_heap_new (w.alloc (Obj.cells (pG A0 l0 c0 A1 l1 c1 a2 a3 a4) 27)) (Obj.cells #[.string cl,.string n,.string d] 25)
  rw [World.size_alloc] at h
  exact blk_alloc h _⟩
 have HZ : Aside0 ((((w.alloc (Obj.cells (pG A0 l0 c0 A1 l1 c1 a2 a3 a4) 27)).alloc (Obj.cells #[.string cl,.string n,.string d] 25)).alloc (Obj.cells zR 25)).heap[w.heap.size + 1 + 1]? = some (Obj.cells zR 25 (0,0))):=⟨by
  have h:=World.alloc_heap_new ((w.alloc (Obj.cells (pG A0 l0 c0 A1 l1 c1 a2 a3 a4) 27)).alloc (Obj.cells #[.string cl,.string n,.string d] 25)) (Obj.cells zR 25)
  rw [World.size_alloc,World.size_alloc] at h
  exact h⟩
 have hb3 : Below w.heap.size w (((w.alloc (Obj.cells (pG A0 l0 c0 A1 l1 c1 a2 a3 a4) 27)).alloc (Obj.cells #[.string cl,.string n,.string d] 25)).alloc (Obj.cells zR 25)):=below_alloc (below_alloc (below_alloc (Below.refl _ _) _) _) _
 have HA:=aq (find_among (fun s => hasM l0 s n d) w.heap.size (w.heap.size + 1) A c xs (((w.alloc (Obj.cells (pG A0 l0 c0 A1 l1 c1 a2 a3 a4) 27)).alloc (Obj.cells #[.string cl,.string n,.string d] 25)).alloc (Obj.cells zR 25)) (Kd.C_below hC hb3) hc (fun x W hW => declared_lit (fun k => k < w.heap.size) A0 c0 l0 A1 c1 l1 a2 a3 a4 w.heap.size (w.heap.size + 1) n d x W (Kd.F_below (Kd.F_below HC0.out hb3) hW) hc0 (Kd.C_below (Kd.C_below hr1 hb3) hW) hc1 (blk_below HP.out hW) _ (blk_below HM.out hW)))
 clear hb3 hr0 hr1 hC
 cases hf : xs.find? (fun s => hasM l0 s n d) with
 | none =>
  have hd : decS l0 xs n d = (⟨#[]⟩,⟨#[]⟩,⟨#[]⟩,false):=by unfold decS;rw [hf]
  rw [hd]
  rw [hf] at HA
  clear hf hd
  go_enter Try.func33,Try.ntmps33
  go_wp2_with fail
  refine HA.out.mono ?_
  rintro e w1 ⟨rfl,hb⟩
  have HB1:=aq (below_step (below_alloc (below_alloc (below_alloc (Below.refl w.heap.size w) (Obj.cells (pG A0 l0 c0 A1 l1 c1 a2 a3 a4) 27)) (Obj.cells #[.string cl,.string n,.string d] 25)) (Obj.cells zR 25)) hb)
  have HP1:=aq (blk_below HP.out hb)
  have HM1:=aq (blk_below HM.out hb)
  have HZ1:=aq (blk_below HZ.out hb)
  clear hb
  obtain ⟨z0,z1,z2⟩:=cells3 HZ1.out
  have zf:=blk_frozen HZ1.out
  go_wp2_with fail
  exact bodyPost_ret (results_ct rfl _ _ (w.heap.size + 1 + 1) 25 zR (0,0) _ rfl (set3_own HZ1.out _ _ _) Try.underlying25 rfl (by kernel_rfl)) rfl ⟨rfl,set3_below HB1.out (by omega) _ _ _⟩
 | some s =>
  have HI:=aq (List.find?_some hf)
  obtain ⟨y,hy⟩ : ∃ y,getM l0 s n d = y:=⟨_,rfl⟩
  have HY:=aq hy
  rw [hf] at HA
  cases hm : mayS y with
  | true =>
   have hd : decS l0 xs n d = (s,n,d,true):=by unfold decS;rw [hf];simp only [hy,hm,if_true]
   have HMAY:=aq hm
   rw [hd]
   clear hf hd hy hm
   go_enter Try.func33,Try.ntmps33
   go_wp2_with fail
   refine HA.out.mono ?_
   rintro e w1 ⟨rfl,hb⟩
   have HB1:=aq (below_step (below_alloc (below_alloc (below_alloc (Below.refl w.heap.size w) (Obj.cells (pG A0 l0 c0 A1 l1 c1 a2 a3 a4) 27)) (Obj.cells #[.string cl,.string n,.string d] 25)) (Obj.cells zR 25)) hb)
   have HP1:=aq (blk_below HP.out hb)
   have HM1:=aq (blk_below HM.out hb)
   have HZ1:=aq (blk_below HZ.out hb)
   clear hb
   obtain ⟨p0,p1,p2,p3,p4⟩:=cells5 HP1.out
   obtain ⟨m0,m1,m2⟩:=cells3 HM1.out
   have mf:=blk_frozen HM1.out
   have HB2:=aq (below_set (g:=w.heap.size + 1) (j:=0) (v:=.string s) HB1.out (Nat.le_succ _))
   have HM2:=aq (blk_put (cs':=#[.string s,.string n,.string d]) HM1.out 0 (.string s) rfl)
   have HZ2:=aq (blk_far HZ1.out (p:=⟨w.heap.size + 1,0,none⟩) (by simp) (.string s))
   have HG:=aq (find_get (fun k => k < w.heap.size) A0 c0 l0 A1 c1 l1 a2 a3 a4 s n d (w1.setCell ⟨w.heap.size + 1,0,none⟩ (.string s)) (Kd.F_below HC0.out HB2.out) hc0 (Kd.C_below HC1.out HB2.out) hc1)
   rw [HY.out,HI.out] at HG
   go_wp2_with fail
   refine HG.out.mono ?_
   rintro e w2 ⟨A5,c5,rfl,hFM,hb2⟩
   have HB3:=aq (below_alloc (below_step HB2.out hb2) (Obj.cells (zH y A5 c5) 37))
   have HM3:=aq (blk_alloc (blk_below HM2.out hb2) (Obj.cells (zH y A5 c5) 37))
   have HZ3:=aq (blk_alloc (blk_below HZ2.out hb2) (Obj.cells (zH y A5 c5) 37))
   have HD:=aq (static_lit y _ (w2.alloc (Obj.cells (zH y A5 c5) 37)) (k37.K_below (below_alloc (Below.refl _ _) _) (Kd.FK_now hFM)))
   rw [HMAY.out] at HD
   clear hFM hb2 p0 p1 p2 p3 p4 m0 m1 m2 mf HG
   go_wp2_with fail
   refine HD.out.mono ?_
   rintro e w4 ⟨rfl,hb4⟩
   have HB4:=aq (below_step HB3.out hb4)
   have HZ4:=aq (blk_below HZ3.out hb4)
   obtain ⟨m0,m1,m2⟩:=cells3 (blk_below HM3.out hb4)
   obtain ⟨z0,z1,z2⟩:=cells3 HZ4.out
   have zf:=blk_frozen HZ4.out
   clear hb4 HD
   go_wp2_with fail
   exact bodyPost_ret (results_ct rfl _ _ (w.heap.size + 1 + 1) 25 #[.string s,.string n,.string d] (0,0) _ rfl (set3_own HZ4.out _ _ _) Try.underlying25 rfl (by kernel_rfl)) rfl ⟨rfl,set3_below HB4.out (by omega) _ _ _⟩
  | false =>
   have hd : decS l0 xs n d = (⟨#[]⟩,⟨#[]⟩,⟨#[]⟩,false):=by unfold decS;rw [hf];simp only [hy,hm,Bool.false_eq_true,if_false]
   have HMAY:=aq hm
   rw [hd]
   clear hf hd hy hm
   go_enter Try.func33,Try.ntmps33
   go_wp2_with fail
   refine HA.out.mono ?_
   rintro e w1 ⟨rfl,hb⟩
   have HB1:=aq (below_step (below_alloc (below_alloc (below_alloc (Below.refl w.heap.size w) (Obj.cells (pG A0 l0 c0 A1 l1 c1 a2 a3 a4) 27)) (Obj.cells #[.string cl,.string n,.string d] 25)) (Obj.cells zR 25)) hb)
   have HP1:=aq (blk_below HP.out hb)
   have HM1:=aq (blk_below HM.out hb)
   have HZ1:=aq (blk_below HZ.out hb)
   clear hb
   obtain ⟨p0,p1,p2,p3,p4⟩:=cells5 HP1.out
   obtain ⟨m0,m1,m2⟩:=cells3 HM1.out
   have mf:=blk_frozen HM1.out
   have HB2:=aq (below_set (g:=w.heap.size + 1) (j:=0) (v:=.string s) HB1.out (Nat.le_succ _))
   have HM2:=aq (blk_put (cs':=#[.string s,.string n,.string d]) HM1.out 0 (.string s) rfl)
   have HZ2:=aq (blk_far HZ1.out (p:=⟨w.heap.size + 1,0,none⟩) (by simp) (.string s))
   have HG:=aq (find_get (fun k => k < w.heap.size) A0 c0 l0 A1 c1 l1 a2 a3 a4 s n d (w1.setCell ⟨w.heap.size + 1,0,none⟩ (.string s)) (Kd.F_below HC0.out HB2.out) hc0 (Kd.C_below HC1.out HB2.out) hc1)
   rw [HY.out,HI.out] at HG
   go_wp2_with fail
   refine HG.out.mono ?_
   rintro e w2 ⟨A5,c5,rfl,hFM,hb2⟩
   have HB3:=aq (below_alloc (below_step HB2.out hb2) (Obj.cells (zH y A5 c5) 37))
   have HM3:=aq (blk_alloc (blk_below HM2.out hb2) (Obj.cells (zH y A5 c5) 37))
   have HZ3:=aq (blk_alloc (blk_below HZ2.out hb2) (Obj.cells (zH y A5 c5) 37))
   have HD:=aq (static_lit y _ (w2.alloc (Obj.cells (zH y A5 c5) 37)) (k37.K_below (below_alloc (Below.refl _ _) _) (Kd.FK_now hFM)))
   rw [HMAY.out] at HD
   clear hFM hb2 p0 p1 p2 p3 p4 m0 m1 m2 mf HG
   go_wp2_with fail
   refine HD.out.mono ?_
   rintro e w4 ⟨rfl,hb4⟩
   have HB4:=aq (below_step HB3.out hb4)
   have HZ4:=aq (blk_below HZ3.out hb4)
   obtain ⟨m0,m1,m2⟩:=cells3 (blk_below HM3.out hb4)
   obtain ⟨z0,z1,z2⟩:=cells3 HZ4.out
   have zf:=blk_frozen HZ4.out
   clear hb4 HD
   go_wp2_with fail
   exact bodyPost_ret (results_ct rfl _ _ (w.heap.size + 1 + 1) 25 zR (0,0) _ rfl (set3_own HZ4.out _ _ _) Try.underlying25 rfl (by kernel_rfl)) rfl ⟨rfl,set3_below HB4.out (by omega) _ _ _⟩
theorem pm_of1 {w w' : World} {A0_0 : Option Addr} {c0_0 : Nat} {l0_0 : List S33} {A0_1 : Option Addr} {c0_1 : Nat} {l0_1 : List ByteArray} {a0_2 : ByteArray} {a0_3 : ByteArray} {a0_4 : ByteArray} {a1 a2 a3 : ByteArray} (hp : w'.heap[w.heap.size]? = some (Obj.cells (pG A0_0 l0_0 c0_0 A0_1 l0_1 c0_1 a0_2 a0_3 a0_4) 27 (0, 0))) (hm : w'.heap[w.heap.size + 1]? = some (Obj.cells #[.string a1, .string a2, .string a3] 25 (0, 0))) : w'.cell? ⟨w.heap.size, 0, none⟩ = some (.slice A0_0 l0_0.length c0_0) ∧ w'.cell? ⟨w.heap.size, 1, none⟩ = some (.slice A0_1 l0_1.length c0_1) ∧ w'.cell? ⟨w.heap.size, 2, none⟩ = some (.string a0_2) ∧ w'.cell? ⟨w.heap.size, 3, none⟩ = some (.string a0_3) ∧ w'.cell? ⟨w.heap.size, 4, none⟩ = some (.string a0_4) ∧ w'.cell? ⟨w.heap.size + 1, 0, none⟩ = some (.string a1) ∧ w'.cell? ⟨w.heap.size + 1, 1, none⟩ = some (.string a2) ∧ w'.cell? ⟨w.heap.size + 1, 2, none⟩ = some (.string a3) := by
 obtain ⟨p0,p1,p2,p3,p4⟩:=cells5 hp
 obtain ⟨m0,m1,m2⟩:=cells3 hm
 exact ⟨p0,p1,p2,p3,p4,m0,m1,m2⟩
def find_Static.f (l0_0 : List S33) (l0_1 : List ByteArray) (a0_2 a0_3 a0_4 a1 a2 a3 : ByteArray) : Option (ByteArray × ByteArray × ByteArray × Bool) := (hier_Supers.f l0_0 l0_1 a0_2 a0_3 a0_4 a1).map fun xs => decS l0_0 xs a2 a3
theorem find_Static.calls (A0_0 : Option Addr) (c0_0 : Nat) (l0_0 : List S33) (A0_1 : Option Addr) (c0_1 : Nat) (l0_1 : List ByteArray) (a0_2 : ByteArray) (a0_3 : ByteArray) (a0_4 : ByteArray) (a1 : ByteArray) (a2 : ByteArray) (a3 : ByteArray) (r1 : ByteArray) (r2 : ByteArray) (r3 : ByteArray) (r4 : Bool) (w : World) (hr0_0 : Kd.C k33 w A0_0 l0_0.length l0_0) (hc0_0 : l0_0.length ≤ c0_0) (hr0_1 : Kd.C Kd.string w A0_1 l0_1.length l0_1) (hc0_1 : l0_1.length ≤ c0_1) (h : find_Static.f l0_0 l0_1 a0_2 a0_3 a0_4 a1 a2 a3 = some (r1, r2, r3, r4)) :
  Calls Try.prog 93 #[.agg (pG A0_0 l0_0 c0_0 A0_1 l0_1 c0_1 a0_2 a0_3 a0_4),.agg #[.string a1,.string a2,.string a3]] w fun e w' => e = .returned (.tuple #[.agg #[.string r1,.string r2,.string r3],.bool r4]) ∧ Below w.heap.size w w':=by
 unfold find_Static.f at h
 obtain ⟨xs,hx,hd⟩:=Option.map_eq_some_iff.1 h
 have HS:=aq (fun W (hW : Below w.heap.size w W) => hier_Supers.calls A0_0 c0_0 l0_0 A0_1 c0_1 l0_1 a0_2 a0_3 a0_4 a1 xs W (Kd.C_below hr0_0 hW) hc0_0 (Kd.C_below hr0_1 hW) hc0_1 hx)
 have HD:=aq (fun A c W (hW : Below w.heap.size w W) (hC : Kd.C Kd.string W A xs.length xs) (hc : xs.length ≤ c) => find_declaredS A0_0 c0_0 l0_0 A0_1 c0_1 l0_1 a0_2 a0_3 a0_4 A c xs a1 a2 a3 W (Kd.C_below hr0_0 hW) hc0_0 (Kd.C_below hr0_1 hW) hc0_1 hC hc)
 rw [hd] at HD
 have hp : (((w.alloc (Obj.cells (pG A0_0 l0_0 c0_0 A0_1 l0_1 c0_1 a0_2 a0_3 a0_4) 27)).alloc (Obj.cells #[.string a1,.string a2,.string a3] 25)).alloc (Obj.cells zR 25)).drew.heap[w.heap.size]? = some (Obj.cells (pG A0_0 l0_0 c0_0 A0_1 l0_1 c0_1 a0_2 a0_3 a0_4) 27 (0,0)):=blk_alloc (blk_alloc (World.alloc_heap_new w (Obj.cells (pG A0_0 l0_0 c0_0 A0_1 l0_1 c0_1 a0_2 a0_3 a0_4) 27)) _) _
 have hm : (((w.alloc (Obj.cells (pG A0_0 l0_0 c0_0 A0_1 l0_1 c0_1 a0_2 a0_3 a0_4) 27)).alloc (Obj.cells #[.string a1,.string a2,.string a3] 25)).alloc (Obj.cells zR 25)).drew.heap[w.heap.size + 1]? = some (Obj.cells #[.string a1,.string a2,.string a3] 25 (0,0)):=by
  have h:=World.alloc_heap_new (w.alloc (Obj.cells (pG A0_0 l0_0 c0_0 A0_1 l0_1 c0_1 a0_2 a0_3 a0_4) 27)) (Obj.cells #[.string a1,.string a2,.string a3] 25)
  rw [World.size_alloc] at h
  exact blk_alloc h _
 have hz : (((w.alloc (Obj.cells (pG A0_0 l0_0 c0_0 A0_1 l0_1 c0_1 a0_2 a0_3 a0_4) 27)).alloc (Obj.cells #[.string a1,.string a2,.string a3] 25)).alloc (Obj.cells zR 25)).drew.heap[w.heap.size + 1 + 1]? = some (Obj.cells zR 25 (0,0)):=by
  have h:=World.alloc_heap_new ((w.alloc (Obj.cells (pG A0_0 l0_0 c0_0 A0_1 l0_1 c0_1 a0_2 a0_3 a0_4) 27)).alloc (Obj.cells #[.string a1,.string a2,.string a3] 25)) (Obj.cells zR 25)
  rw [World.size_alloc,World.size_alloc] at h
  exact h
 have hbw : Below w.heap.size w (((w.alloc (Obj.cells (pG A0_0 l0_0 c0_0 A0_1 l0_1 c0_1 a0_2 a0_3 a0_4) 27)).alloc (Obj.cells #[.string a1,.string a2,.string a3] 25)).alloc (Obj.cells zR 25)).drew:=below_drew1 (below_alloc (below_alloc (below_alloc (Below.refl _ _) _) _) _)
 have hn1 : w.heap.size ≠ w.heap.size + 1 + 1:=by omega
 have hn2 : w.heap.size + 1 ≠ w.heap.size + 1 + 1:=by omega
 clear h hx hd hr0_0 hr0_1
 go_enter Try.func93,Try.ntmps93
 go_wp2_with fail
 go_region_held3 (fun w' => w'.cell? ⟨w.heap.size,0,none⟩ = some (.slice A0_0 l0_0.length c0_0) ∧ w'.cell? ⟨w.heap.size,1,none⟩ = some (.slice A0_1 l0_1.length c0_1) ∧ w'.cell? ⟨w.heap.size,2,none⟩ = some (.string a0_2) ∧ w'.cell? ⟨w.heap.size,3,none⟩ = some (.string a0_3) ∧ w'.cell? ⟨w.heap.size,4,none⟩ = some (.string a0_4) ∧ w'.cell? ⟨w.heap.size + 1,0,none⟩ = some (.string a1) ∧ w'.cell? ⟨w.heap.size + 1,1,none⟩ = some (.string a2) ∧ w'.cell? ⟨w.heap.size + 1,2,none⟩ = some (.string a3)) (first|with_reducible exact pm_of1 hp hm|with_reducible exact pm_of1 (set3_far hp hn1 _ _ _) (set3_far hm hn2 _ _ _)) (first
  | (go_at_call 8;refine (HS.out _ hbw).mono ?_;rintro e w2 ⟨v,rfl,hR,hb⟩;obtain ⟨A,c,rfl,hcx,hCx⟩:=Kd.R_reads hR;replace hp:=blk_below hp hb;replace hz:=blk_below hz hb;replace hm:=blk_below hm hb;replace hbw:=below_step hbw hb;clear hb hR)
  | (go_at_call 33;refine (HD.out _ _ _ hbw hCx hcx).mono ?_;rintro e w3 ⟨rfl,hb⟩;replace hp:=blk_below hp hb;replace hz:=blk_below hz hb;replace hm:=blk_below hm hb;replace hbw:=below_step hbw hb;clear hb hCx;obtain ⟨z0,z1,z2⟩:=cells3 hz;have zf:=blk_frozen hz))
 all_goals go_wp2_with fail
 all_goals exact bodyPost_ret (results_ct rfl _ _ (w.heap.size + 1 + 1) 25 #[.string r1,.string r2,.string r3] (0,0) _ rfl (set3_own hz _ _ _) Try.underlying25 rfl (by kernel_rfl)) rfl ⟨rfl,set3_below hbw (by omega) _ _ _⟩
end Go.Proofs.Ytfplcohjnlbfjaa.Hand
end

section
namespace Go.Proofs.Ytfplcohjnlbfjaa.Hand
open Go.RowKit Go.Proofs.YtfplcohjnlbfjaaW
open PrintWords PrintLast PrintMore
theorem set3_belowA {n : Nat} {w0 w : World} {R : Nat} (h : Below n w0 w) (hR : n ≤ R) (v0 v1 v2 : Value) : Below n w0 (((w.setCell ⟨R, 0, none⟩ v0).setCell ⟨R, 1, none⟩ v1).setCell ⟨R, 2, none⟩ v2) := ((h.setCell hR _).setCell hR _).setCell hR _
end Go.Proofs.Ytfplcohjnlbfjaa.Hand
end

section
namespace Go.Proofs.Ytfplcohjnlbfjaa.HandV
open Go.Proofs.Ytfplcohjnlbfjaa.Hand Go.RowKit Go.Proofs.YtfplcohjnlbfjaaW.PrintWords Go.Proofs.YtfplcohjnlbfjaaW.PrintLast Go.Proofs.YtfplcohjnlbfjaaW.PrintMore
def usesR (x : S74) : List Int :=
 if x.f0 = 4 ∨ x.f0 = 25 ∨ x.f0 = 13 ∨ x.f0 = 15 then [x.f1,x.f2] else if x.f0 = 14 then [x.f1,x.f3] else if x.f0 = 16 then [x.f2,x.f3] else if x.f0 = 18 then [x.f3] else if x.f0 = 22 then [x.f2]
 else if x.f0 = 19 ∨ x.f0 = 20 ∨ x.f0 = 21 then x.f1 :: x.f8 else if x.f0 = 9 ∨ x.f0 = 10 ∨ x.f0 = 11 ∨ x.f0 = 17 ∨ x.f0 = 28 ∨ x.f0 = 29 then [x.f1] else []
def Asked (m : S25) (pc : Int) (x : S74) (ins : List CV) (sets : Bool) : Prop :=
 (∀ c ∈ ins,c.f1 = pc ∧ c.f4.f0 = m ∧ (c.f2.f0 = 1 → c.f2.f1 = m ∧ c.f2.f2 ∈ usesR x) ∧ (c.f3.f0 = 1 → c.f3.f1 = m ∧ c.f3.f2 ∈ usesR x)) ∧ (sets = true → ∃ c ∈ ins,c.f2 = (⟨1,m,x.f1,z44,z46⟩ : S50))
theorem asked_nil {m : S25} {pc : Int} {x : S74} : Asked m pc x [] false := ⟨fun _ h => (by cases h), fun h => (by cases h)⟩
theorem asked_cons {m : S25} {pc : Int} {x : S74} {c : CV} {ins : List CV} {s : Bool} (h1 : c.f1 = pc) (h2 : c.f4.f0 = m) (h3 : c.f2.f0 = 1 → c.f2.f1 = m ∧ c.f2.f2 ∈ usesR x) (h4 : c.f3.f0 = 1 → c.f3.f1 = m ∧ c.f3.f2 ∈ usesR x) (h : Asked m pc x ins s) : Asked m pc x (c :: ins) s :=
 ⟨fun d hd => by
  rcases List.mem_cons.1 hd with rfl|hd
  ·
   exact ⟨h1,h2,h3,h4⟩
  ·
   exact h.1 d hd,fun hs => by obtain ⟨d,hd,he⟩:=h.2 hs;exact ⟨d,List.mem_cons_of_mem _ hd,he⟩⟩
theorem asked_set {m : S25} {pc : Int} {x : S74} {c : CV} {ins : List CV} (h1 : c.f1 = pc) (h2 : c.f4.f0 = m) (h3 : c.f2 = (⟨1, m, x.f1, z44, z46⟩ : S50)) (h3b : x.f1 ∈ usesR x) (h4 : c.f3.f0 = 1 → c.f3.f1 = m ∧ c.f3.f2 ∈ usesR x) (h : Asked m pc x ins false) {s : Bool} : Asked m pc x (c :: ins) s :=
 ⟨fun d hd => by
  rcases List.mem_cons.1 hd with rfl|hd
  ·
   exact ⟨h1,h2,fun _ => by rw [h3];exact ⟨rfl,h3b⟩,h4⟩
  ·
   exact h.1 d hd,fun hs => ⟨c,List.mem_cons_self,h3⟩⟩
structure IvS (w W : World) (base g : Nat) (a0 a1 a2 a3 a4 : Value) (m : S25) (pc : Int) (b0 b1 b2 b3 b4 b5 b6 b7 b8 : Value) (v0 v : Value) (l : List CV) (n : Nat) (cs : Array Value) (ty : TypeId) : Prop where
 hm : MkOwn W base g a0 a1 a2 a3 a4 m pc b0 b1 b2 b3 b4 b5 b6 b7 b8 v l
 hB : Below base w W
 hK : Kp w W g v0 v
 hz : W.heap[n]? = some (.cells cs ty (0,0))
 hn : n ≠ g
 hv : some n ≠ v.ownBlock
 hs : base ≤ W.heap.size
theorem Kp.ofBelow {w w' : World} {g : Nat} {v : Value} (h : Below w.heap.size w w') : Kp w w' g v v := ⟨⟨h.size, fun i hi _ _ => h.block i hi⟩, .inl rfl⟩
theorem IvS.start {w : World} {base g : Nat} {a0 a1 a2 a3 a4 : Value} {m : S25} {pc : Int} {b0 b1 b2 b3 b4 b5 b6 b7 b8 : Value} {v : Value} {l : List CV} (hm : MkOwn w base g a0 a1 a2 a3 a4 m pc b0 b1 b2 b3 b4 b5 b6 b7 b8 v l) (hbz : base ≤ w.heap.size) (cs : Array Value) (ty : TypeId) : IvS w (w.alloc (.cells cs ty)) base g a0 a1 a2 a3 a4 m pc b0 b1 b2 b3 b4 b5 b6 b7 b8 v v l w.heap.size cs ty :=
 have hab:=below_alloc (Below.refl w.heap.size w) (.cells cs ty)
 ⟨hm.below hab hbz,hab.mono hbz,Kp.ofBelow hab,World.alloc_heap_new w _,Nat.ne_of_gt (blk_lt hm.b),fun e => by have:=Kd.R_lt hm.r _ e.symm;omega,Nat.le_trans hbz hab.size⟩
theorem IvS.below {w W W' : World} {base g : Nat} {a0 a1 a2 a3 a4 : Value} {m : S25} {pc : Int} {b0 b1 b2 b3 b4 b5 b6 b7 b8 : Value} {v0 v : Value} {l : List CV} {n : Nat} {cs : Array Value} {ty : TypeId} (h : IvS w W base g a0 a1 a2 a3 a4 m pc b0 b1 b2 b3 b4 b5 b6 b7 b8 v0 v l n cs ty) (hb : Below W.heap.size W W') : IvS w W' base g a0 a1 a2 a3 a4 m pc b0 b1 b2 b3 b4 b5 b6 b7 b8 v0 v l n cs ty :=
 ⟨h.hm.below hb h.hs,h.hB.trans (hb.mono h.hs),h.hK.trans (Kp.ofBelow hb),blk_below h.hz hb,h.hn,h.hv,Nat.le_trans h.hs hb.size⟩
theorem IvS.put {w W W' : World} {base g : Nat} {a0 a1 a2 a3 a4 : Value} {m : S25} {pc : Int} {b0 b1 b2 b3 b4 b5 b6 b7 b8 : Value} {v0 v v' : Value} {l l' : List CV} {n : Nat} {cs : Array Value} {ty : TypeId} (h : IvS w W base g a0 a1 a2 a3 a4 m pc b0 b1 b2 b3 b4 b5 b6 b7 b8 v0 v l n cs ty) (hm : MkOwn W' base g a0 a1 a2 a3 a4 m pc b0 b1 b2 b3 b4 b5 b6 b7 b8 v' l') (hb : Below base W W') (hk : Kp W W' g v v') : IvS w W' base g a0 a1 a2 a3 a4 m pc b0 b1 b2 b3 b4 b5 b6 b7 b8 v0 v' l' n cs ty :=
 ⟨hm,h.hB.trans hb,h.hK.trans hk,hk.blk h.hz h.hn h.hv,h.hn,by
  rcases hk.2 with e|⟨b,e,hb⟩
  ·
   rw [e];exact h.hv
  ·
   rw [e]
   intro he
   injection he with he
   have:=blk_lt h.hz
   omega,Nat.le_trans h.hs hk.1.1⟩
theorem iv_move (base g : Nat) (a0 a1 a2 a3 a4 : Value) (m : S25) (pc : Int) (ia ib ic id : Int) (s5 s6 s7 : ByteArray) (A8 : Option Addr) (n8 c8 : Nat) (ags : List Int) (v : Value) (l : List CV) (w : World) (hm : MkOwn w base g a0 a1 a2 a3 a4 m pc (.int .i64 4) (.int .i64 ia) (.int .i64 ib) (.int .i64 ic) (.int .i64 id) (.string s5) (.string s6) (.string s7) (.slice A8 n8 c8) v l) (hl : l.length + 2 ≤ 1048576) (hbz : base ≤ w.heap.size) :
  Calls Try.prog 46 #[.pointer (some ⟨g,0,none⟩)] w fun e w' => ∃ v' ins,e = .returned (.tuple #[]) ∧ MkOwn w' base g a0 a1 a2 a3 a4 m pc (.int .i64 4) (.int .i64 ia) (.int .i64 ib) (.int .i64 ic) (.int .i64 id) (.string s5) (.string s6) (.string s7) (.slice A8 n8 c8) v' (l ++ ins) ∧ ins.length ≤ 3 ∧ Asked m pc (⟨4,ia,ib,ic,id,s5,s6,s7,ags⟩ : S74) ins true ∧ Below base w w' ∧ Kp w w' g v v':=by
 have HS0:=aq (IvS.start hm hbz #[.int .i64 4,.int .i64 ia,.int .i64 ib,.int .i64 ic,.int .i64 id,.string s5,.string s6,.string s7,.slice A8 n8 c8] 74)
 have HL:=aq hl
 obtain ⟨e9,e10,e11,e12,e13,e14,e15,e16,e17⟩ : w.cell? ⟨g,9,none⟩ = some (.int .i64 4) ∧ w.cell? ⟨g,10,none⟩ = some (.int .i64 ia) ∧ w.cell? ⟨g,11,none⟩ = some (.int .i64 ib) ∧ w.cell? ⟨g,12,none⟩ = some (.int .i64 ic) ∧ w.cell? ⟨g,13,none⟩ = some (.int .i64 id) ∧ w.cell? ⟨g,14,none⟩ = some (.string s5) ∧ w.cell? ⟨g,15,none⟩ = some (.string s6) ∧ w.cell? ⟨g,16,none⟩ = some (.string s7) ∧ w.cell? ⟨g,17,none⟩ = some (.slice A8 n8 c8):=⟨blk_cell hm.b 9,blk_cell hm.b 10,blk_cell hm.b 11,blk_cell hm.b 12,blk_cell hm.b 13,blk_cell hm.b 14,blk_cell hm.b 15,blk_cell hm.b 16,blk_cell hm.b 17⟩
 clear hm hbz hl
 go_enter Try.func46,Try.ntmps46
 go_wp2_with fail
 clear e9 e10 e11 e12 e13 e14 e15 e16 e17
 have HS : Aside0 (IvS w (w.alloc (Obj.cells #[.int .i64 4,.int .i64 ia,.int .i64 ib,.int .i64 ic,.int .i64 id,.string s5,.string s6,.string s7,.slice A8 n8 c8] 74)).drew base g a0 a1 a2 a3 a4 m pc (.int .i64 4) (.int .i64 ia) (.int .i64 ib) (.int .i64 ic) (.int .i64 id) (.string s5) (.string s6) (.string s7) (.slice A8 n8 c8) v v l w.heap.size #[.int .i64 4,.int .i64 ia,.int .i64 ib,.int .i64 ic,.int .i64 id,.string s5,.string s6,.string s7,.slice A8 n8 c8] 74):=⟨HS0.out.below (below_drew1 (Below.refl _ _))⟩
 have z0 : (w.alloc (Obj.cells #[.int .i64 4,.int .i64 ia,.int .i64 ib,.int .i64 ic,.int .i64 id,.string s5,.string s6,.string s7,.slice A8 n8 c8] 74)).drew.cell? ⟨w.heap.size,1,none⟩ = some (.int .i64 ia):=blk_cell HS.out.hz 1
 have z1 : (w.alloc (Obj.cells #[.int .i64 4,.int .i64 ia,.int .i64 ib,.int .i64 ic,.int .i64 id,.string s5,.string s6,.string s7,.slice A8 n8 c8] 74)).drew.cell? ⟨w.heap.size,2,none⟩ = some (.int .i64 ib):=blk_cell HS.out.hz 2
 go_wp2_with fail
 refine start_ (n:=10) (S:=fun w' => w'.cell? ⟨w.heap.size,1,none⟩ = some (.int .i64 ia) ∧ w'.cell? ⟨w.heap.size,2,none⟩ = some (.int .i64 ib)) (ds:=[9]) (Array.replicate 10 false) (by kernel_rfl) rfl rfl ⟨z0,z1⟩ (fun hHeld => ?_)
 generalize (w.alloc (Obj.cells #[.int .i64 4,.int .i64 ia,.int .i64 ib,.int .i64 ic,.int .i64 id,.string s5,.string s6,.string s7,.slice A8 n8 c8] 74)).drew = X at HS z0 z1 hHeld ⊢
 refine sP (i:=0) (N:=some 11) ?_
 refine sP (i:=1) (N:=some 12) ?_
 refine sP (i:=2) (N:=some 13) ?_
 refine sP (i:=5) (N:=some 16) ?_
 refine sP (i:=6) (N:=some 17) ?_
 refine sT (i:=3) (N:=some 14) hHeld ?_
 refine sT (i:=7) (N:=some 18) hHeld ?_
 refine sO (i:=4) (N:=some 15) fun K hK => ?_
 refine sG Try.func38 #[.pointer (some ⟨g,0,none⟩),.int .i64 ia] ?_
 refine (maker_reg g a0 a1 a2 a3 a4 m pc (.int .i64 4) (.int .i64 ia) (.int .i64 ib) (.int .i64 ic) (.int .i64 id) (.string s5) (.string s6) (.string s7) (.slice A8 n8 c8) v ia X HS.out.hm.b).mono ?_
 rintro e w1 ⟨rfl,hb⟩
 refine ⟨_,rfl,?_⟩
 have y0:=sC hb z0
 have y1:=sC hb z1
 have HS1:=aq (HS.out.below hb)
 clear hb
 refine hK.out _ _ ⟨y0,y1⟩ (fun hHeld => ?_)
 clear hK K
 refine sN ?_
 refine sO (i:=8) (N:=some 19) fun K hK => ?_
 refine sG Try.func38 #[.pointer (some ⟨g,0,none⟩),.int .i64 ib] ?_
 refine (maker_reg g a0 a1 a2 a3 a4 m pc (.int .i64 4) (.int .i64 ia) (.int .i64 ib) (.int .i64 ic) (.int .i64 id) (.string s5) (.string s6) (.string s7) (.slice A8 n8 c8) v ib w1 HS1.out.hm.b).mono ?_
 rintro e w2 ⟨rfl,hb⟩
 refine ⟨_,rfl,?_⟩
 have x0:=sC hb y0
 have x1:=sC hb y1
 have HS2:=aq (HS1.out.below hb)
 clear hb
 refine hK.out _ _ ⟨x0,x1⟩ (fun hHeld => ?_)
 clear hK K
 refine sN ?_
 refine sX (i:=9) (N:=some 20) fun K hK => ?_
 refine sG Try.func37 #[.pointer (some ⟨g,0,none⟩),.agg (List.toArray (qR 1 m ia [])),.agg (List.toArray (qR 1 m ib [])),.string ⟨#[]⟩] ?_
 refine (maker_flows base g a0 a1 a2 a3 a4 m pc (.int .i64 4) (.int .i64 ia) (.int .i64 ib) (.int .i64 ic) (.int .i64 id) (.string s5) (.string s6) (.string s7) (.slice A8 n8 c8) v l (⟨1,m,ia,z44,z46⟩ : S50) (⟨1,m,ib,z44,z46⟩ : S50) ⟨#[]⟩ w2 HS2.out.hm (by have:=HL.out;omega) HS2.out.hs).mono ?_
 rintro e w3 ⟨v3,rfl,hm3,hb3,hk3⟩
 refine ⟨_,rfl,?_⟩
 have HS3:=aq (HS2.out.put hm3 hb3 hk3)
 clear hm3 hb3 hk3
 refine hK.out _ _ ?_
 clear hK K
 refine sN ?_
 refine done_ (by kernel_rfl) ?_
 go_wp2_with fail
 exact bodyPost_end (v:=.tuple #[]) (by simp [results,Try.results46,go_sem]) rfl (by first|exact ⟨_,[(⟨2,pc,(⟨1,m,ia,z44,z46⟩ : S50),(⟨1,m,ib,z44,z46⟩ : S50),⟨m,0,⟨#[]⟩⟩,z44,⟨#[]⟩,z25,noSl⟩ : CV)],rfl,HS3.out.hm,Nat.le_of_ble_eq_true rfl,(asked_set rfl rfl rfl (by simp [usesR]) (fun _ => ⟨rfl,by simp [usesR]⟩) asked_nil),HS3.out.hB,HS3.out.hK⟩|exact ⟨rfl,_,[(⟨2,pc,(⟨1,m,ia,z44,z46⟩ : S50),(⟨1,m,ib,z44,z46⟩ : S50),⟨m,0,⟨#[]⟩⟩,z44,⟨#[]⟩,z25,noSl⟩ : CV)],HS3.out.hm,Nat.le_of_ble_eq_true rfl,(asked_set rfl rfl rfl (by simp [usesR]) (fun _ => ⟨rfl,by simp [usesR]⟩) asked_nil),HS3.out.hB,HS3.out.hK⟩)
theorem iv_cast (base g : Nat) (a0 a1 a2 a3 a4 : Value) (m : S25) (pc : Int) (ia ib ic id : Int) (s5 s6 s7 : ByteArray) (A8 : Option Addr) (n8 c8 : Nat) (ags : List Int) (v : Value) (l : List CV) (w : World) (hm : MkOwn w base g a0 a1 a2 a3 a4 m pc (.int .i64 25) (.int .i64 ia) (.int .i64 ib) (.int .i64 ic) (.int .i64 id) (.string s5) (.string s6) (.string s7) (.slice A8 n8 c8) v l) (hl : l.length + 2 ≤ 1048576) (hbz : base ≤ w.heap.size) :
  Calls Try.prog 46 #[.pointer (some ⟨g,0,none⟩)] w fun e w' => ∃ v' ins,e = .returned (.tuple #[]) ∧ MkOwn w' base g a0 a1 a2 a3 a4 m pc (.int .i64 25) (.int .i64 ia) (.int .i64 ib) (.int .i64 ic) (.int .i64 id) (.string s5) (.string s6) (.string s7) (.slice A8 n8 c8) v' (l ++ ins) ∧ ins.length ≤ 3 ∧ Asked m pc (⟨25,ia,ib,ic,id,s5,s6,s7,ags⟩ : S74) ins true ∧ Below base w w' ∧ Kp w w' g v v':=by
 have HS0:=aq (IvS.start hm hbz #[.int .i64 25,.int .i64 ia,.int .i64 ib,.int .i64 ic,.int .i64 id,.string s5,.string s6,.string s7,.slice A8 n8 c8] 74)
 have HL:=aq hl
 obtain ⟨e9,e10,e11,e12,e13,e14,e15,e16,e17⟩ : w.cell? ⟨g,9,none⟩ = some (.int .i64 25) ∧ w.cell? ⟨g,10,none⟩ = some (.int .i64 ia) ∧ w.cell? ⟨g,11,none⟩ = some (.int .i64 ib) ∧ w.cell? ⟨g,12,none⟩ = some (.int .i64 ic) ∧ w.cell? ⟨g,13,none⟩ = some (.int .i64 id) ∧ w.cell? ⟨g,14,none⟩ = some (.string s5) ∧ w.cell? ⟨g,15,none⟩ = some (.string s6) ∧ w.cell? ⟨g,16,none⟩ = some (.string s7) ∧ w.cell? ⟨g,17,none⟩ = some (.slice A8 n8 c8):=⟨blk_cell hm.b 9,blk_cell hm.b 10,blk_cell hm.b 11,blk_cell hm.b 12,blk_cell hm.b 13,blk_cell hm.b 14,blk_cell hm.b 15,blk_cell hm.b 16,blk_cell hm.b 17⟩
 clear hm hbz hl
 go_enter Try.func46,Try.ntmps46
 go_wp2_with fail
 clear e9 e10 e11 e12 e13 e14 e15 e16 e17
 have HS : Aside0 (IvS w (w.alloc (Obj.cells #[.int .i64 25,.int .i64 ia,.int .i64 ib,.int .i64 ic,.int .i64 id,.string s5,.string s6,.string s7,.slice A8 n8 c8] 74)).drew base g a0 a1 a2 a3 a4 m pc (.int .i64 25) (.int .i64 ia) (.int .i64 ib) (.int .i64 ic) (.int .i64 id) (.string s5) (.string s6) (.string s7) (.slice A8 n8 c8) v v l w.heap.size #[.int .i64 25,.int .i64 ia,.int .i64 ib,.int .i64 ic,.int .i64 id,.string s5,.string s6,.string s7,.slice A8 n8 c8] 74):=⟨HS0.out.below (below_drew1 (Below.refl _ _))⟩
 have z0 : (w.alloc (Obj.cells #[.int .i64 25,.int .i64 ia,.int .i64 ib,.int .i64 ic,.int .i64 id,.string s5,.string s6,.string s7,.slice A8 n8 c8] 74)).drew.cell? ⟨w.heap.size,1,none⟩ = some (.int .i64 ia):=blk_cell HS.out.hz 1
 have z1 : (w.alloc (Obj.cells #[.int .i64 25,.int .i64 ia,.int .i64 ib,.int .i64 ic,.int .i64 id,.string s5,.string s6,.string s7,.slice A8 n8 c8] 74)).drew.cell? ⟨w.heap.size,2,none⟩ = some (.int .i64 ib):=blk_cell HS.out.hz 2
 have z2 : (w.alloc (Obj.cells #[.int .i64 25,.int .i64 ia,.int .i64 ib,.int .i64 ic,.int .i64 id,.string s5,.string s6,.string s7,.slice A8 n8 c8] 74)).drew.cell? ⟨w.heap.size,5,none⟩ = some (.string s5):=blk_cell HS.out.hz 5
 go_wp2_with fail
 refine start_ (n:=12) (S:=fun w' => w'.cell? ⟨w.heap.size,1,none⟩ = some (.int .i64 ia) ∧ w'.cell? ⟨w.heap.size,2,none⟩ = some (.int .i64 ib) ∧ w'.cell? ⟨w.heap.size,5,none⟩ = some (.string s5)) (ds:=[11]) (Array.replicate 12 false) (by kernel_rfl) rfl rfl ⟨z0,z1,z2⟩ (fun hHeld => ?_)
 generalize (w.alloc (Obj.cells #[.int .i64 25,.int .i64 ia,.int .i64 ib,.int .i64 ic,.int .i64 id,.string s5,.string s6,.string s7,.slice A8 n8 c8] 74)).drew = X at HS z0 z1 z2 hHeld ⊢
 refine sP (i:=0) (N:=some 23) ?_
 refine sP (i:=1) (N:=some 24) ?_
 refine sP (i:=2) (N:=some 25) ?_
 refine sP (i:=5) (N:=some 28) ?_
 refine sP (i:=6) (N:=some 29) ?_
 refine sP (i:=9) (N:=some 32) ?_
 refine sT (i:=3) (N:=some 26) hHeld ?_
 refine sT (i:=7) (N:=some 30) hHeld ?_
 refine sT (i:=10) (N:=some 33) hHeld ?_
 refine sO (i:=4) (N:=some 27) fun K hK => ?_
 refine sG Try.func38 #[.pointer (some ⟨g,0,none⟩),.int .i64 ia] ?_
 refine (maker_reg g a0 a1 a2 a3 a4 m pc (.int .i64 25) (.int .i64 ia) (.int .i64 ib) (.int .i64 ic) (.int .i64 id) (.string s5) (.string s6) (.string s7) (.slice A8 n8 c8) v ia X HS.out.hm.b).mono ?_
 rintro e w1 ⟨rfl,hb⟩
 refine ⟨_,rfl,?_⟩
 have y0:=sC hb z0
 have y1:=sC hb z1
 have y2:=sC hb z2
 have HS1:=aq (HS.out.below hb)
 clear hb
 refine hK.out _ _ ⟨y0,y1,y2⟩ (fun hHeld => ?_)
 clear hK K
 refine sN ?_
 refine sO (i:=8) (N:=some 31) fun K hK => ?_
 refine sG Try.func38 #[.pointer (some ⟨g,0,none⟩),.int .i64 ib] ?_
 refine (maker_reg g a0 a1 a2 a3 a4 m pc (.int .i64 25) (.int .i64 ia) (.int .i64 ib) (.int .i64 ic) (.int .i64 id) (.string s5) (.string s6) (.string s7) (.slice A8 n8 c8) v ib w1 HS1.out.hm.b).mono ?_
 rintro e w2 ⟨rfl,hb⟩
 refine ⟨_,rfl,?_⟩
 have x0:=sC hb y0
 have x1:=sC hb y1
 have x2:=sC hb y2
 have HS2:=aq (HS1.out.below hb)
 clear hb
 refine hK.out _ _ ⟨x0,x1,x2⟩ (fun hHeld => ?_)
 clear hK K
 refine sN ?_
 refine sX (i:=11) (N:=some 34) fun K hK => ?_
 refine sG Try.func37 #[.pointer (some ⟨g,0,none⟩),.agg (List.toArray (qR 1 m ia [])),.agg (List.toArray (qR 1 m ib [])),.string s5] ?_
 refine (maker_flows base g a0 a1 a2 a3 a4 m pc (.int .i64 25) (.int .i64 ia) (.int .i64 ib) (.int .i64 ic) (.int .i64 id) (.string s5) (.string s6) (.string s7) (.slice A8 n8 c8) v l (⟨1,m,ia,z44,z46⟩ : S50) (⟨1,m,ib,z44,z46⟩ : S50) s5 w2 HS2.out.hm (by have:=HL.out;omega) HS2.out.hs).mono ?_
 rintro e w3 ⟨v3,rfl,hm3,hb3,hk3⟩
 refine ⟨_,rfl,?_⟩
 have HS3:=aq (HS2.out.put hm3 hb3 hk3)
 clear hm3 hb3 hk3
 refine hK.out _ _ ?_
 clear hK K
 refine sN ?_
 refine done_ (by kernel_rfl) ?_
 go_wp2_with fail
 exact bodyPost_end (v:=.tuple #[]) (by simp [results,Try.results46,go_sem]) rfl (by first|exact ⟨_,[(⟨2,pc,(⟨1,m,ia,z44,z46⟩ : S50),(⟨1,m,ib,z44,z46⟩ : S50),⟨m,0,⟨#[]⟩⟩,z44,s5,z25,noSl⟩ : CV)],rfl,HS3.out.hm,Nat.le_of_ble_eq_true rfl,(asked_set rfl rfl rfl (by simp [usesR]) (fun _ => ⟨rfl,by simp [usesR]⟩) asked_nil),HS3.out.hB,HS3.out.hK⟩|exact ⟨rfl,_,[(⟨2,pc,(⟨1,m,ia,z44,z46⟩ : S50),(⟨1,m,ib,z44,z46⟩ : S50),⟨m,0,⟨#[]⟩⟩,z44,s5,z25,noSl⟩ : CV)],HS3.out.hm,Nat.le_of_ble_eq_true rfl,(asked_set rfl rfl rfl (by simp [usesR]) (fun _ => ⟨rfl,by simp [usesR]⟩) asked_nil),HS3.out.hB,HS3.out.hK⟩)
theorem iv_return (base g : Nat) (a0 a1 a2 a3 a4 : Value) (m : S25) (pc : Int) (ia ib ic id : Int) (s5 s6 s7 : ByteArray) (A8 : Option Addr) (n8 c8 : Nat) (ags : List Int) (v : Value) (l : List CV) (w : World) (hm : MkOwn w base g a0 a1 a2 a3 a4 m pc (.int .i64 22) (.int .i64 ia) (.int .i64 ib) (.int .i64 ic) (.int .i64 id) (.string s5) (.string s6) (.string s7) (.slice A8 n8 c8) v l) (hl : l.length + 2 ≤ 1048576) (hbz : base ≤ w.heap.size) :
  Calls Try.prog 46 #[.pointer (some ⟨g,0,none⟩)] w fun e w' => ∃ v' ins,e = .returned (.tuple #[]) ∧ MkOwn w' base g a0 a1 a2 a3 a4 m pc (.int .i64 22) (.int .i64 ia) (.int .i64 ib) (.int .i64 ic) (.int .i64 id) (.string s5) (.string s6) (.string s7) (.slice A8 n8 c8) v' (l ++ ins) ∧ ins.length ≤ 3 ∧ Asked m pc (⟨22,ia,ib,ic,id,s5,s6,s7,ags⟩ : S74) ins false ∧ Below base w w' ∧ Kp w w' g v v':=by
 have HS0:=aq (IvS.start hm hbz #[.int .i64 22,.int .i64 ia,.int .i64 ib,.int .i64 ic,.int .i64 id,.string s5,.string s6,.string s7,.slice A8 n8 c8] 74)
 have HL:=aq hl
 obtain ⟨e9,e10,e11,e12,e13,e14,e15,e16,e17⟩ : w.cell? ⟨g,9,none⟩ = some (.int .i64 22) ∧ w.cell? ⟨g,10,none⟩ = some (.int .i64 ia) ∧ w.cell? ⟨g,11,none⟩ = some (.int .i64 ib) ∧ w.cell? ⟨g,12,none⟩ = some (.int .i64 ic) ∧ w.cell? ⟨g,13,none⟩ = some (.int .i64 id) ∧ w.cell? ⟨g,14,none⟩ = some (.string s5) ∧ w.cell? ⟨g,15,none⟩ = some (.string s6) ∧ w.cell? ⟨g,16,none⟩ = some (.string s7) ∧ w.cell? ⟨g,17,none⟩ = some (.slice A8 n8 c8):=⟨blk_cell hm.b 9,blk_cell hm.b 10,blk_cell hm.b 11,blk_cell hm.b 12,blk_cell hm.b 13,blk_cell hm.b 14,blk_cell hm.b 15,blk_cell hm.b 16,blk_cell hm.b 17⟩
 clear hm hbz hl
 go_enter Try.func46,Try.ntmps46
 go_wp2_with fail
 clear e9 e10 e11 e12 e13 e14 e15 e16 e17
 have HS : Aside0 (IvS w (w.alloc (Obj.cells #[.int .i64 22,.int .i64 ia,.int .i64 ib,.int .i64 ic,.int .i64 id,.string s5,.string s6,.string s7,.slice A8 n8 c8] 74)).drew base g a0 a1 a2 a3 a4 m pc (.int .i64 22) (.int .i64 ia) (.int .i64 ib) (.int .i64 ic) (.int .i64 id) (.string s5) (.string s6) (.string s7) (.slice A8 n8 c8) v v l w.heap.size #[.int .i64 22,.int .i64 ia,.int .i64 ib,.int .i64 ic,.int .i64 id,.string s5,.string s6,.string s7,.slice A8 n8 c8] 74):=⟨HS0.out.below (below_drew1 (Below.refl _ _))⟩
 have z0 : (w.alloc (Obj.cells #[.int .i64 22,.int .i64 ia,.int .i64 ib,.int .i64 ic,.int .i64 id,.string s5,.string s6,.string s7,.slice A8 n8 c8] 74)).drew.cell? ⟨w.heap.size,2,none⟩ = some (.int .i64 ib):=blk_cell HS.out.hz 2
 have z1 : (w.alloc (Obj.cells #[.int .i64 22,.int .i64 ia,.int .i64 ib,.int .i64 ic,.int .i64 id,.string s5,.string s6,.string s7,.slice A8 n8 c8] 74)).drew.cell? ⟨g,5,none⟩ = some (.string m.f0):=blk_cell HS.out.hm.b 5
 have z2 : (w.alloc (Obj.cells #[.int .i64 22,.int .i64 ia,.int .i64 ib,.int .i64 ic,.int .i64 id,.string s5,.string s6,.string s7,.slice A8 n8 c8] 74)).drew.cell? ⟨g,6,none⟩ = some (.string m.f1):=blk_cell HS.out.hm.b 6
 have z3 : (w.alloc (Obj.cells #[.int .i64 22,.int .i64 ia,.int .i64 ib,.int .i64 ic,.int .i64 id,.string s5,.string s6,.string s7,.slice A8 n8 c8] 74)).drew.cell? ⟨g,7,none⟩ = some (.string m.f2):=blk_cell HS.out.hm.b 7
 go_wp2_with fail
 refine start_ (n:=11) (S:=fun w' => w'.cell? ⟨w.heap.size,2,none⟩ = some (.int .i64 ib) ∧ w'.cell? ⟨g,5,none⟩ = some (.string m.f0) ∧ w'.cell? ⟨g,6,none⟩ = some (.string m.f1) ∧ w'.cell? ⟨g,7,none⟩ = some (.string m.f2)) (ds:=[10]) (Array.replicate 11 false) (by kernel_rfl) rfl rfl ⟨z0,z1,z2,z3⟩ (fun hHeld => ?_)
 generalize (w.alloc (Obj.cells #[.int .i64 22,.int .i64 ia,.int .i64 ib,.int .i64 ic,.int .i64 id,.string s5,.string s6,.string s7,.slice A8 n8 c8] 74)).drew = X at HS z0 z1 z2 z3 hHeld ⊢
 refine sP (i:=0) (N:=some 100) ?_
 refine sP (i:=1) (N:=some 101) ?_
 refine sP (i:=2) (N:=some 102) ?_
 refine sP (i:=3) (N:=some 103) ?_
 refine sP (i:=6) (N:=some 106) ?_
 refine sP (i:=7) (N:=some 107) ?_
 refine sT (i:=4) (N:=some 104) hHeld ?_
 refine sT (i:=8) (N:=some 108) hHeld ?_
 refine sO (i:=5) (N:=some 105) fun K hK => ?_
 refine sG Try.func15 #[.agg #[.string m.f0,.string m.f1,.string m.f2]] ?_
 refine (Q43.gen_Ret.calls m.f0 m.f1 m.f2 2 m.f0 m.f1 m.f2 0 ⟨#[]⟩ ⟨#[]⟩ ⟨#[]⟩ ⟨#[]⟩ ⟨#[]⟩ 0 ⟨#[]⟩ X rfl).mono ?_
 rintro e w1 ⟨rfl,hb⟩
 refine ⟨_,rfl,?_⟩
 have y0:=sC hb z0
 have y1:=sC hb z1
 have y2:=sC hb z2
 have y3:=sC hb z3
 have HS1:=aq (HS.out.below hb)
 clear hb
 refine hK.out _ _ ⟨y0,y1,y2,y3⟩ (fun hHeld => ?_)
 clear hK K
 refine sN ?_
 refine sO (i:=9) (N:=some 109) fun K hK => ?_
 refine sG Try.func38 #[.pointer (some ⟨g,0,none⟩),.int .i64 ib] ?_
 refine (maker_reg g a0 a1 a2 a3 a4 m pc (.int .i64 22) (.int .i64 ia) (.int .i64 ib) (.int .i64 ic) (.int .i64 id) (.string s5) (.string s6) (.string s7) (.slice A8 n8 c8) v ib w1 HS1.out.hm.b).mono ?_
 rintro e w2 ⟨rfl,hb⟩
 refine ⟨_,rfl,?_⟩
 have x0:=sC hb y0
 have x1:=sC hb y1
 have x2:=sC hb y2
 have x3:=sC hb y3
 have HS2:=aq (HS1.out.below hb)
 clear hb
 refine hK.out _ _ ⟨x0,x1,x2,x3⟩ (fun hHeld => ?_)
 clear hK K
 refine sN ?_
 refine sX (i:=10) (N:=some 110) fun K hK => ?_
 refine sG Try.func37 #[.pointer (some ⟨g,0,none⟩),.agg (List.toArray (qR 2 m 0 [])),.agg (List.toArray (qR 1 m ib [])),.string ⟨#[]⟩] ?_
 refine (maker_flows base g a0 a1 a2 a3 a4 m pc (.int .i64 22) (.int .i64 ia) (.int .i64 ib) (.int .i64 ic) (.int .i64 id) (.string s5) (.string s6) (.string s7) (.slice A8 n8 c8) v l (⟨2,m,0,z44,z46⟩ : S50) (⟨1,m,ib,z44,z46⟩ : S50) ⟨#[]⟩ w2 HS2.out.hm (by have:=HL.out;omega) HS2.out.hs).mono ?_
 rintro e w3 ⟨v3,rfl,hm3,hb3,hk3⟩
 refine ⟨_,rfl,?_⟩
 have HS3:=aq (HS2.out.put hm3 hb3 hk3)
 clear hm3 hb3 hk3
 refine hK.out _ _ ?_
 clear hK K
 refine sN ?_
 refine done_ (by kernel_rfl) ?_
 go_wp2_with fail
 exact bodyPost_end (v:=.tuple #[]) (by simp [results,Try.results46,go_sem]) rfl (by first|exact ⟨_,[(⟨2,pc,(⟨2,m,0,z44,z46⟩ : S50),(⟨1,m,ib,z44,z46⟩ : S50),⟨m,0,⟨#[]⟩⟩,z44,⟨#[]⟩,z25,noSl⟩ : CV)],rfl,HS3.out.hm,Nat.le_of_ble_eq_true rfl,(asked_cons rfl rfl (fun h => absurd (show (2 : Int) = 1 from h) (by decide)) (fun _ => ⟨rfl,by simp [usesR]⟩) asked_nil),HS3.out.hB,HS3.out.hK⟩|exact ⟨rfl,_,[(⟨2,pc,(⟨2,m,0,z44,z46⟩ : S50),(⟨1,m,ib,z44,z46⟩ : S50),⟨m,0,⟨#[]⟩⟩,z44,⟨#[]⟩,z25,noSl⟩ : CV)],HS3.out.hm,Nat.le_of_ble_eq_true rfl,(asked_cons rfl rfl (fun h => absurd (show (2 : Int) = 1 from h) (by decide)) (fun _ => ⟨rfl,by simp [usesR]⟩) asked_nil),HS3.out.hB,HS3.out.hK⟩)
theorem iv_load (base g : Nat) (a0 a1 a2 a3 a4 : Value) (m : S25) (pc : Int) (ia ib ic id : Int) (s5 s6 s7 : ByteArray) (A8 : Option Addr) (n8 c8 : Nat) (ags : List Int) (v : Value) (l : List CV) (w : World) (hm : MkOwn w base g a0 a1 a2 a3 a4 m pc (.int .i64 13) (.int .i64 ia) (.int .i64 ib) (.int .i64 ic) (.int .i64 id) (.string s5) (.string s6) (.string s7) (.slice A8 n8 c8) v l) (hl : l.length + 2 ≤ 1048576) (hbz : base ≤ w.heap.size) :
  Calls Try.prog 46 #[.pointer (some ⟨g,0,none⟩)] w fun e w' => ∃ v' ins,e = .returned (.tuple #[]) ∧ MkOwn w' base g a0 a1 a2 a3 a4 m pc (.int .i64 13) (.int .i64 ia) (.int .i64 ib) (.int .i64 ic) (.int .i64 id) (.string s5) (.string s6) (.string s7) (.slice A8 n8 c8) v' (l ++ ins) ∧ ins.length ≤ 3 ∧ Asked m pc (⟨13,ia,ib,ic,id,s5,s6,s7,ags⟩ : S74) ins true ∧ Below base w w' ∧ Kp w w' g v v':=by
 have HS0:=aq (IvS.start hm hbz #[.int .i64 13,.int .i64 ia,.int .i64 ib,.int .i64 ic,.int .i64 id,.string s5,.string s6,.string s7,.slice A8 n8 c8] 74)
 have HL:=aq hl
 obtain ⟨e9,e10,e11,e12,e13,e14,e15,e16,e17⟩ : w.cell? ⟨g,9,none⟩ = some (.int .i64 13) ∧ w.cell? ⟨g,10,none⟩ = some (.int .i64 ia) ∧ w.cell? ⟨g,11,none⟩ = some (.int .i64 ib) ∧ w.cell? ⟨g,12,none⟩ = some (.int .i64 ic) ∧ w.cell? ⟨g,13,none⟩ = some (.int .i64 id) ∧ w.cell? ⟨g,14,none⟩ = some (.string s5) ∧ w.cell? ⟨g,15,none⟩ = some (.string s6) ∧ w.cell? ⟨g,16,none⟩ = some (.string s7) ∧ w.cell? ⟨g,17,none⟩ = some (.slice A8 n8 c8):=⟨blk_cell hm.b 9,blk_cell hm.b 10,blk_cell hm.b 11,blk_cell hm.b 12,blk_cell hm.b 13,blk_cell hm.b 14,blk_cell hm.b 15,blk_cell hm.b 16,blk_cell hm.b 17⟩
 clear hm hbz hl
 go_enter Try.func46,Try.ntmps46
 go_wp2_with fail
 clear e9 e10 e11 e12 e13 e14 e15 e16 e17
 have HS : Aside0 (IvS w (w.alloc (Obj.cells #[.int .i64 13,.int .i64 ia,.int .i64 ib,.int .i64 ic,.int .i64 id,.string s5,.string s6,.string s7,.slice A8 n8 c8] 74)).drew base g a0 a1 a2 a3 a4 m pc (.int .i64 13) (.int .i64 ia) (.int .i64 ib) (.int .i64 ic) (.int .i64 id) (.string s5) (.string s6) (.string s7) (.slice A8 n8 c8) v v l w.heap.size #[.int .i64 13,.int .i64 ia,.int .i64 ib,.int .i64 ic,.int .i64 id,.string s5,.string s6,.string s7,.slice A8 n8 c8] 74):=⟨HS0.out.below (below_drew1 (Below.refl _ _))⟩
 have z0 : (w.alloc (Obj.cells #[.int .i64 13,.int .i64 ia,.int .i64 ib,.int .i64 ic,.int .i64 id,.string s5,.string s6,.string s7,.slice A8 n8 c8] 74)).drew.cell? ⟨w.heap.size,1,none⟩ = some (.int .i64 ia):=blk_cell HS.out.hz 1
 have z1 : (w.alloc (Obj.cells #[.int .i64 13,.int .i64 ia,.int .i64 ib,.int .i64 ic,.int .i64 id,.string s5,.string s6,.string s7,.slice A8 n8 c8] 74)).drew.cell? ⟨w.heap.size,2,none⟩ = some (.int .i64 ib):=blk_cell HS.out.hz 2
 go_wp2_with fail
 refine start_ (n:=11) (S:=fun w' => w'.cell? ⟨w.heap.size,1,none⟩ = some (.int .i64 ia) ∧ w'.cell? ⟨w.heap.size,2,none⟩ = some (.int .i64 ib)) (ds:=[10]) (Array.replicate 11 false) (by kernel_rfl) rfl rfl ⟨z0,z1⟩ (fun hHeld => ?_)
 generalize (w.alloc (Obj.cells #[.int .i64 13,.int .i64 ia,.int .i64 ib,.int .i64 ic,.int .i64 id,.string s5,.string s6,.string s7,.slice A8 n8 c8] 74)).drew = X at HS z0 z1 hHeld ⊢
 refine sP (i:=0) (N:=some 61) ?_
 refine sP (i:=1) (N:=some 62) ?_
 refine sP (i:=2) (N:=some 63) ?_
 refine sP (i:=5) (N:=some 66) ?_
 refine sP (i:=6) (N:=some 67) ?_
 refine sT (i:=3) (N:=some 64) hHeld ?_
 refine sT (i:=7) (N:=some 68) hHeld ?_
 refine sO (i:=4) (N:=some 65) fun K hK => ?_
 refine sG Try.func38 #[.pointer (some ⟨g,0,none⟩),.int .i64 ia] ?_
 refine (maker_reg g a0 a1 a2 a3 a4 m pc (.int .i64 13) (.int .i64 ia) (.int .i64 ib) (.int .i64 ic) (.int .i64 id) (.string s5) (.string s6) (.string s7) (.slice A8 n8 c8) v ia X HS.out.hm.b).mono ?_
 rintro e w1 ⟨rfl,hb⟩
 refine ⟨_,rfl,?_⟩
 have y0:=sC hb z0
 have y1:=sC hb z1
 have HS1:=aq (HS.out.below hb)
 clear hb
 refine hK.out _ _ ⟨y0,y1⟩ (fun hHeld => ?_)
 clear hK K
 refine sN ?_
 refine sO (i:=8) (N:=some 69) fun K hK => ?_
 refine sG Try.func38 #[.pointer (some ⟨g,0,none⟩),.int .i64 ib] ?_
 refine (maker_reg g a0 a1 a2 a3 a4 m pc (.int .i64 13) (.int .i64 ia) (.int .i64 ib) (.int .i64 ic) (.int .i64 id) (.string s5) (.string s6) (.string s7) (.slice A8 n8 c8) v ib w1 HS1.out.hm.b).mono ?_
 rintro e w2 ⟨rfl,hb⟩
 refine ⟨_,rfl,?_⟩
 have x0:=sC hb y0
 have x1:=sC hb y1
 have HS2:=aq (HS1.out.below hb)
 clear hb
 refine hK.out _ _ ⟨x0,x1⟩ (fun hHeld => ?_)
 clear hK K
 refine sN ?_
 refine sP (i:=9) (N:=some 70) ?_
 refine sX (i:=10) (N:=some 71) fun K hK => ?_
 refine sG Try.func61 #[.pointer (some ⟨g,0,none⟩),.agg (List.toArray ((kK 5 0 (qR 1 m ia (qR 1 m ib (sZ (fZ (kS ⟨#[]⟩ (mZ [.slice none 0 0])))))))))] ?_
 refine (put_plain base g a0 a1 a2 a3 a4 m pc (.int .i64 13) (.int .i64 ia) (.int .i64 ib) (.int .i64 ic) (.int .i64 id) (.string s5) (.string s6) (.string s7) (.slice A8 n8 c8) v l (⟨5,0,(⟨1,m,ia,z44,z46⟩ : S50),(⟨1,m,ib,z44,z46⟩ : S50),⟨z25,0,⟨#[]⟩⟩,z44,⟨#[]⟩,z25,noSl⟩ : CV) w2 HS2.out.hm (show (5 : Int) ≠ 1 by decide) (by have:=HL.out;omega) HS2.out.hs).mono ?_
 rintro e w3 ⟨v3,rfl,hm3,hb3,hk3⟩
 refine ⟨_,rfl,?_⟩
 have HS3:=aq (HS2.out.put hm3 hb3 hk3)
 clear hm3 hb3 hk3
 refine hK.out _ _ ?_
 clear hK K
 refine sN ?_
 refine done_ (by kernel_rfl) ?_
 go_wp2_with fail
 exact bodyPost_end (v:=.tuple #[]) (by simp [results,Try.results46,go_sem]) rfl (by first|exact ⟨_,[(⟨5,pc,(⟨1,m,ia,z44,z46⟩ : S50),(⟨1,m,ib,z44,z46⟩ : S50),⟨m,0,⟨#[]⟩⟩,z44,⟨#[]⟩,z25,noSl⟩ : CV)],rfl,HS3.out.hm,Nat.le_of_ble_eq_true rfl,(asked_set rfl rfl rfl (by simp [usesR]) (fun _ => ⟨rfl,by simp [usesR]⟩) asked_nil),HS3.out.hB,HS3.out.hK⟩|exact ⟨rfl,_,[(⟨5,pc,(⟨1,m,ia,z44,z46⟩ : S50),(⟨1,m,ib,z44,z46⟩ : S50),⟨m,0,⟨#[]⟩⟩,z44,⟨#[]⟩,z25,noSl⟩ : CV)],HS3.out.hm,Nat.le_of_ble_eq_true rfl,(asked_set rfl rfl rfl (by simp [usesR]) (fun _ => ⟨rfl,by simp [usesR]⟩) asked_nil),HS3.out.hB,HS3.out.hK⟩)
theorem iv_store (base g : Nat) (a0 a1 a2 a3 a4 : Value) (m : S25) (pc : Int) (ia ib ic id : Int) (s5 s6 s7 : ByteArray) (A8 : Option Addr) (n8 c8 : Nat) (ags : List Int) (v : Value) (l : List CV) (w : World) (hm : MkOwn w base g a0 a1 a2 a3 a4 m pc (.int .i64 14) (.int .i64 ia) (.int .i64 ib) (.int .i64 ic) (.int .i64 id) (.string s5) (.string s6) (.string s7) (.slice A8 n8 c8) v l) (hl : l.length + 2 ≤ 1048576) (hbz : base ≤ w.heap.size) :
  Calls Try.prog 46 #[.pointer (some ⟨g,0,none⟩)] w fun e w' => ∃ v' ins,e = .returned (.tuple #[]) ∧ MkOwn w' base g a0 a1 a2 a3 a4 m pc (.int .i64 14) (.int .i64 ia) (.int .i64 ib) (.int .i64 ic) (.int .i64 id) (.string s5) (.string s6) (.string s7) (.slice A8 n8 c8) v' (l ++ ins) ∧ ins.length ≤ 3 ∧ Asked m pc (⟨14,ia,ib,ic,id,s5,s6,s7,ags⟩ : S74) ins true ∧ Below base w w' ∧ Kp w w' g v v':=by
 have HS0:=aq (IvS.start hm hbz #[.int .i64 14,.int .i64 ia,.int .i64 ib,.int .i64 ic,.int .i64 id,.string s5,.string s6,.string s7,.slice A8 n8 c8] 74)
 have HL:=aq hl
 obtain ⟨e9,e10,e11,e12,e13,e14,e15,e16,e17⟩ : w.cell? ⟨g,9,none⟩ = some (.int .i64 14) ∧ w.cell? ⟨g,10,none⟩ = some (.int .i64 ia) ∧ w.cell? ⟨g,11,none⟩ = some (.int .i64 ib) ∧ w.cell? ⟨g,12,none⟩ = some (.int .i64 ic) ∧ w.cell? ⟨g,13,none⟩ = some (.int .i64 id) ∧ w.cell? ⟨g,14,none⟩ = some (.string s5) ∧ w.cell? ⟨g,15,none⟩ = some (.string s6) ∧ w.cell? ⟨g,16,none⟩ = some (.string s7) ∧ w.cell? ⟨g,17,none⟩ = some (.slice A8 n8 c8):=⟨blk_cell hm.b 9,blk_cell hm.b 10,blk_cell hm.b 11,blk_cell hm.b 12,blk_cell hm.b 13,blk_cell hm.b 14,blk_cell hm.b 15,blk_cell hm.b 16,blk_cell hm.b 17⟩
 clear hm hbz hl
 go_enter Try.func46,Try.ntmps46
 go_wp2_with fail
 clear e9 e10 e11 e12 e13 e14 e15 e16 e17
 have HS : Aside0 (IvS w (w.alloc (Obj.cells #[.int .i64 14,.int .i64 ia,.int .i64 ib,.int .i64 ic,.int .i64 id,.string s5,.string s6,.string s7,.slice A8 n8 c8] 74)).drew base g a0 a1 a2 a3 a4 m pc (.int .i64 14) (.int .i64 ia) (.int .i64 ib) (.int .i64 ic) (.int .i64 id) (.string s5) (.string s6) (.string s7) (.slice A8 n8 c8) v v l w.heap.size #[.int .i64 14,.int .i64 ia,.int .i64 ib,.int .i64 ic,.int .i64 id,.string s5,.string s6,.string s7,.slice A8 n8 c8] 74):=⟨HS0.out.below (below_drew1 (Below.refl _ _))⟩
 have z0 : (w.alloc (Obj.cells #[.int .i64 14,.int .i64 ia,.int .i64 ib,.int .i64 ic,.int .i64 id,.string s5,.string s6,.string s7,.slice A8 n8 c8] 74)).drew.cell? ⟨w.heap.size,1,none⟩ = some (.int .i64 ia):=blk_cell HS.out.hz 1
 have z1 : (w.alloc (Obj.cells #[.int .i64 14,.int .i64 ia,.int .i64 ib,.int .i64 ic,.int .i64 id,.string s5,.string s6,.string s7,.slice A8 n8 c8] 74)).drew.cell? ⟨w.heap.size,3,none⟩ = some (.int .i64 ic):=blk_cell HS.out.hz 3
 go_wp2_with fail
 refine start_ (n:=11) (S:=fun w' => w'.cell? ⟨w.heap.size,1,none⟩ = some (.int .i64 ia) ∧ w'.cell? ⟨w.heap.size,3,none⟩ = some (.int .i64 ic)) (ds:=[10]) (Array.replicate 11 false) (by kernel_rfl) rfl rfl ⟨z0,z1⟩ (fun hHeld => ?_)
 generalize (w.alloc (Obj.cells #[.int .i64 14,.int .i64 ia,.int .i64 ib,.int .i64 ic,.int .i64 id,.string s5,.string s6,.string s7,.slice A8 n8 c8] 74)).drew = X at HS z0 z1 hHeld ⊢
 refine sP (i:=0) (N:=some 74) ?_
 refine sP (i:=1) (N:=some 75) ?_
 refine sP (i:=2) (N:=some 76) ?_
 refine sP (i:=5) (N:=some 79) ?_
 refine sP (i:=6) (N:=some 80) ?_
 refine sT (i:=3) (N:=some 77) hHeld ?_
 refine sT (i:=7) (N:=some 81) hHeld ?_
 refine sO (i:=4) (N:=some 78) fun K hK => ?_
 refine sG Try.func38 #[.pointer (some ⟨g,0,none⟩),.int .i64 ia] ?_
 refine (maker_reg g a0 a1 a2 a3 a4 m pc (.int .i64 14) (.int .i64 ia) (.int .i64 ib) (.int .i64 ic) (.int .i64 id) (.string s5) (.string s6) (.string s7) (.slice A8 n8 c8) v ia X HS.out.hm.b).mono ?_
 rintro e w1 ⟨rfl,hb⟩
 refine ⟨_,rfl,?_⟩
 have y0:=sC hb z0
 have y1:=sC hb z1
 have HS1:=aq (HS.out.below hb)
 clear hb
 refine hK.out _ _ ⟨y0,y1⟩ (fun hHeld => ?_)
 clear hK K
 refine sN ?_
 refine sO (i:=8) (N:=some 82) fun K hK => ?_
 refine sG Try.func38 #[.pointer (some ⟨g,0,none⟩),.int .i64 ic] ?_
 refine (maker_reg g a0 a1 a2 a3 a4 m pc (.int .i64 14) (.int .i64 ia) (.int .i64 ib) (.int .i64 ic) (.int .i64 id) (.string s5) (.string s6) (.string s7) (.slice A8 n8 c8) v ic w1 HS1.out.hm.b).mono ?_
 rintro e w2 ⟨rfl,hb⟩
 refine ⟨_,rfl,?_⟩
 have x0:=sC hb y0
 have x1:=sC hb y1
 have HS2:=aq (HS1.out.below hb)
 clear hb
 refine hK.out _ _ ⟨x0,x1⟩ (fun hHeld => ?_)
 clear hK K
 refine sN ?_
 refine sP (i:=9) (N:=some 83) ?_
 refine sX (i:=10) (N:=some 84) fun K hK => ?_
 refine sG Try.func61 #[.pointer (some ⟨g,0,none⟩),.agg (List.toArray ((kK 6 0 (qR 1 m ia (qR 1 m ic (sZ (fZ (kS ⟨#[]⟩ (mZ [.slice none 0 0])))))))))] ?_
 refine (put_plain base g a0 a1 a2 a3 a4 m pc (.int .i64 14) (.int .i64 ia) (.int .i64 ib) (.int .i64 ic) (.int .i64 id) (.string s5) (.string s6) (.string s7) (.slice A8 n8 c8) v l (⟨6,0,(⟨1,m,ia,z44,z46⟩ : S50),(⟨1,m,ic,z44,z46⟩ : S50),⟨z25,0,⟨#[]⟩⟩,z44,⟨#[]⟩,z25,noSl⟩ : CV) w2 HS2.out.hm (show (6 : Int) ≠ 1 by decide) (by have:=HL.out;omega) HS2.out.hs).mono ?_
 rintro e w3 ⟨v3,rfl,hm3,hb3,hk3⟩
 refine ⟨_,rfl,?_⟩
 have HS3:=aq (HS2.out.put hm3 hb3 hk3)
 clear hm3 hb3 hk3
 refine hK.out _ _ ?_
 clear hK K
 refine sN ?_
 refine done_ (by kernel_rfl) ?_
 go_wp2_with fail
 exact bodyPost_end (v:=.tuple #[]) (by simp [results,Try.results46,go_sem]) rfl (by first|exact ⟨_,[(⟨6,pc,(⟨1,m,ia,z44,z46⟩ : S50),(⟨1,m,ic,z44,z46⟩ : S50),⟨m,0,⟨#[]⟩⟩,z44,⟨#[]⟩,z25,noSl⟩ : CV)],rfl,HS3.out.hm,Nat.le_of_ble_eq_true rfl,(asked_set rfl rfl rfl (by simp [usesR]) (fun _ => ⟨rfl,by simp [usesR]⟩) asked_nil),HS3.out.hB,HS3.out.hK⟩|exact ⟨rfl,_,[(⟨6,pc,(⟨1,m,ia,z44,z46⟩ : S50),(⟨1,m,ic,z44,z46⟩ : S50),⟨m,0,⟨#[]⟩⟩,z44,⟨#[]⟩,z25,noSl⟩ : CV)],HS3.out.hm,Nat.le_of_ble_eq_true rfl,(asked_set rfl rfl rfl (by simp [usesR]) (fun _ => ⟨rfl,by simp [usesR]⟩) asked_nil),HS3.out.hB,HS3.out.hK⟩)
theorem iv_init (base g : Nat) (a0 a1 a2 a3 a4 : Value) (m : S25) (pc : Int) (ia ib ic id : Int) (s5 s6 s7 : ByteArray) (A8 : Option Addr) (n8 c8 : Nat) (ags : List Int) (v : Value) (l : List CV) (w : World) (hm : MkOwn w base g a0 a1 a2 a3 a4 m pc (.int .i64 32) (.int .i64 ia) (.int .i64 ib) (.int .i64 ic) (.int .i64 id) (.string s5) (.string s6) (.string s7) (.slice A8 n8 c8) v l) (hl : l.length + 2 ≤ 1048576) (hbz : base ≤ w.heap.size) :
  Calls Try.prog 46 #[.pointer (some ⟨g,0,none⟩)] w fun e w' => ∃ v' ins,e = .returned (.tuple #[]) ∧ MkOwn w' base g a0 a1 a2 a3 a4 m pc (.int .i64 32) (.int .i64 ia) (.int .i64 ib) (.int .i64 ic) (.int .i64 id) (.string s5) (.string s6) (.string s7) (.slice A8 n8 c8) v' (l ++ ins) ∧ ins.length ≤ 3 ∧ Asked m pc (⟨32,ia,ib,ic,id,s5,s6,s7,ags⟩ : S74) ins false ∧ Below base w w' ∧ Kp w w' g v v':=by
 have HS0:=aq (IvS.start hm hbz #[.int .i64 32,.int .i64 ia,.int .i64 ib,.int .i64 ic,.int .i64 id,.string s5,.string s6,.string s7,.slice A8 n8 c8] 74)
 have HL:=aq hl
 obtain ⟨e9,e10,e11,e12,e13,e14,e15,e16,e17⟩ : w.cell? ⟨g,9,none⟩ = some (.int .i64 32) ∧ w.cell? ⟨g,10,none⟩ = some (.int .i64 ia) ∧ w.cell? ⟨g,11,none⟩ = some (.int .i64 ib) ∧ w.cell? ⟨g,12,none⟩ = some (.int .i64 ic) ∧ w.cell? ⟨g,13,none⟩ = some (.int .i64 id) ∧ w.cell? ⟨g,14,none⟩ = some (.string s5) ∧ w.cell? ⟨g,15,none⟩ = some (.string s6) ∧ w.cell? ⟨g,16,none⟩ = some (.string s7) ∧ w.cell? ⟨g,17,none⟩ = some (.slice A8 n8 c8):=⟨blk_cell hm.b 9,blk_cell hm.b 10,blk_cell hm.b 11,blk_cell hm.b 12,blk_cell hm.b 13,blk_cell hm.b 14,blk_cell hm.b 15,blk_cell hm.b 16,blk_cell hm.b 17⟩
 clear hm hbz hl
 go_enter Try.func46,Try.ntmps46
 go_wp2_with fail
 clear e9 e10 e11 e12 e13 e14 e15 e16 e17
 have z5 : (w.alloc (Obj.cells #[.int .i64 32,.int .i64 ia,.int .i64 ib,.int .i64 ic,.int .i64 id,.string s5,.string s6,.string s7,.slice A8 n8 c8] 74)).cell? ⟨w.heap.size,5,none⟩ = some (.string s5):=blk_cell HS0.out.hz 5
 go_wp2_with fail
 refine (maker_begins base g a0 a1 a2 a3 a4 m pc (.int .i64 32) (.int .i64 ia) (.int .i64 ib) (.int .i64 ic) (.int .i64 id) (.string s5) (.string s6) (.string s7) (.slice A8 n8 c8) v l s5 _ HS0.out.hm (by have:=HL.out;omega) HS0.out.hs).mono ?_
 rintro e w1 ⟨v1,rfl,hm,hb,hk⟩
 have HS1:=aq (HS0.out.put hm hb hk)
 clear hm hb hk
 go_wp2_with fail
 exact bodyPost_end (v:=.tuple #[]) (by simp [results,Try.results46,go_sem]) rfl (by first|exact ⟨_,[(⟨7,pc,z50,z50,⟨m,0,⟨#[]⟩⟩,z44,s5,z25,noSl⟩ : CV)],rfl,HS1.out.hm,Nat.le_of_ble_eq_true rfl,(asked_cons rfl rfl (fun h => absurd (show (0 : Int) = 1 from h) (by decide)) (fun h => absurd (show (0 : Int) = 1 from h) (by decide)) asked_nil),HS1.out.hB,HS1.out.hK⟩|exact ⟨rfl,_,[(⟨7,pc,z50,z50,⟨m,0,⟨#[]⟩⟩,z44,s5,z25,noSl⟩ : CV)],HS1.out.hm,Nat.le_of_ble_eq_true rfl,(asked_cons rfl rfl (fun h => absurd (show (0 : Int) = 1 from h) (by decide)) (fun h => absurd (show (0 : Int) = 1 from h) (by decide)) asked_nil),HS1.out.hB,HS1.out.hK⟩)
theorem iv_new (base g : Nat) (a0 a1 a2 a3 a4 : Value) (m : S25) (pc : Int) (ia ib ic id : Int) (s5 s6 s7 : ByteArray) (A8 : Option Addr) (n8 c8 : Nat) (ags : List Int) (v : Value) (l : List CV) (w : World) (hm : MkOwn w base g a0 a1 a2 a3 a4 m pc (.int .i64 9) (.int .i64 ia) (.int .i64 ib) (.int .i64 ic) (.int .i64 id) (.string s5) (.string s6) (.string s7) (.slice A8 n8 c8) v l) (hl : l.length + 2 ≤ 1048576) (hbz : base ≤ w.heap.size) :
  Calls Try.prog 46 #[.pointer (some ⟨g,0,none⟩)] w fun e w' => ∃ v' ins,e = .returned (.tuple #[]) ∧ MkOwn w' base g a0 a1 a2 a3 a4 m pc (.int .i64 9) (.int .i64 ia) (.int .i64 ib) (.int .i64 ic) (.int .i64 id) (.string s5) (.string s6) (.string s7) (.slice A8 n8 c8) v' (l ++ ins) ∧ ins.length ≤ 3 ∧ Asked m pc (⟨9,ia,ib,ic,id,s5,s6,s7,ags⟩ : S74) ins true ∧ Below base w w' ∧ Kp w w' g v v':=by
 have HS0:=aq (IvS.start hm hbz #[.int .i64 9,.int .i64 ia,.int .i64 ib,.int .i64 ic,.int .i64 id,.string s5,.string s6,.string s7,.slice A8 n8 c8] 74)
 have HL:=aq hl
 obtain ⟨e9,e10,e11,e12,e13,e14,e15,e16,e17⟩ : w.cell? ⟨g,9,none⟩ = some (.int .i64 9) ∧ w.cell? ⟨g,10,none⟩ = some (.int .i64 ia) ∧ w.cell? ⟨g,11,none⟩ = some (.int .i64 ib) ∧ w.cell? ⟨g,12,none⟩ = some (.int .i64 ic) ∧ w.cell? ⟨g,13,none⟩ = some (.int .i64 id) ∧ w.cell? ⟨g,14,none⟩ = some (.string s5) ∧ w.cell? ⟨g,15,none⟩ = some (.string s6) ∧ w.cell? ⟨g,16,none⟩ = some (.string s7) ∧ w.cell? ⟨g,17,none⟩ = some (.slice A8 n8 c8):=⟨blk_cell hm.b 9,blk_cell hm.b 10,blk_cell hm.b 11,blk_cell hm.b 12,blk_cell hm.b 13,blk_cell hm.b 14,blk_cell hm.b 15,blk_cell hm.b 16,blk_cell hm.b 17⟩
 clear hm hbz hl
 go_enter Try.func46,Try.ntmps46
 go_wp2_with fail
 clear e9 e10 e11 e12 e13 e14 e15 e16 e17
 have z5 : (w.alloc (Obj.cells #[.int .i64 9,.int .i64 ia,.int .i64 ib,.int .i64 ic,.int .i64 id,.string s5,.string s6,.string s7,.slice A8 n8 c8] 74)).cell? ⟨w.heap.size,5,none⟩ = some (.string s5):=blk_cell HS0.out.hz 5
 go_wp2_with fail
 refine (maker_begins base g a0 a1 a2 a3 a4 m pc (.int .i64 9) (.int .i64 ia) (.int .i64 ib) (.int .i64 ic) (.int .i64 id) (.string s5) (.string s6) (.string s7) (.slice A8 n8 c8) v l s5 _ HS0.out.hm (by have:=HL.out;omega) HS0.out.hs).mono ?_
 rintro e w1 ⟨v1,rfl,hm,hb,hk⟩
 have HS1:=aq (HS0.out.put hm hb hk)
 clear hm hb hk
 clear z5
 have z5 : w1.cell? ⟨w.heap.size,5,none⟩ = some (.string s5):=blk_cell HS1.out.hz 5
 go_wp2_with fail
 refine (maker_fresh base g a0 a1 a2 a3 a4 m pc (.int .i64 9) (.int .i64 ia) (.int .i64 ib) (.int .i64 ic) (.int .i64 id) (.string s5) (.string s6) (.string s7) (.slice A8 n8 c8) v1 (l ++ [(⟨7,pc,z50,z50,⟨m,0,⟨#[]⟩⟩,z44,s5,z25,noSl⟩ : CV)]) ia s5 w1 HS1.out.hm (by have:=HL.out;rw [List.length_append];show l.length + 1 ≤ _;omega) HS1.out.hs).mono ?_
 rintro e w2 ⟨v2,rfl,hm,hb,hk⟩
 have HS2:=aq (HS1.out.put hm hb hk)
 clear hm hb hk
 rw [List.append_assoc] at HS2
 go_wp2_with fail
 exact bodyPost_end (v:=.tuple #[]) (by simp [results,Try.results46,go_sem]) rfl (by first|exact ⟨_,[(⟨7,pc,z50,z50,⟨m,0,⟨#[]⟩⟩,z44,s5,z25,noSl⟩ : CV),(⟨1,pc,(⟨1,m,ia,z44,z46⟩ : S50),z50,⟨m,pc,s5⟩,z44,⟨#[]⟩,z25,noSl⟩ : CV)],rfl,HS2.out.hm,Nat.le_of_ble_eq_true rfl,(asked_cons rfl rfl (fun h => absurd (show (0 : Int) = 1 from h) (by decide)) (fun h => absurd (show (0 : Int) = 1 from h) (by decide)) (asked_set rfl rfl rfl (by simp [usesR]) (fun h => absurd (show (0 : Int) = 1 from h) (by decide)) asked_nil)),HS2.out.hB,HS2.out.hK⟩|exact ⟨rfl,_,[(⟨7,pc,z50,z50,⟨m,0,⟨#[]⟩⟩,z44,s5,z25,noSl⟩ : CV),(⟨1,pc,(⟨1,m,ia,z44,z46⟩ : S50),z50,⟨m,pc,s5⟩,z44,⟨#[]⟩,z25,noSl⟩ : CV)],HS2.out.hm,Nat.le_of_ble_eq_true rfl,(asked_cons rfl rfl (fun h => absurd (show (0 : Int) = 1 from h) (by decide)) (fun h => absurd (show (0 : Int) = 1 from h) (by decide)) (asked_set rfl rfl rfl (by simp [usesR]) (fun h => absurd (show (0 : Int) = 1 from h) (by decide)) asked_nil)),HS2.out.hB,HS2.out.hK⟩)
theorem iv_newints (base g : Nat) (a0 a1 a2 a3 a4 : Value) (m : S25) (pc : Int) (ia ib ic id : Int) (s5 s6 s7 : ByteArray) (A8 : Option Addr) (n8 c8 : Nat) (ags : List Int) (v : Value) (l : List CV) (w : World) (hm : MkOwn w base g a0 a1 a2 a3 a4 m pc (.int .i64 10) (.int .i64 ia) (.int .i64 ib) (.int .i64 ic) (.int .i64 id) (.string s5) (.string s6) (.string s7) (.slice A8 n8 c8) v l) (hl : l.length + 2 ≤ 1048576) (hbz : base ≤ w.heap.size) :
  Calls Try.prog 46 #[.pointer (some ⟨g,0,none⟩)] w fun e w' => ∃ v' ins,e = .returned (.tuple #[]) ∧ MkOwn w' base g a0 a1 a2 a3 a4 m pc (.int .i64 10) (.int .i64 ia) (.int .i64 ib) (.int .i64 ic) (.int .i64 id) (.string s5) (.string s6) (.string s7) (.slice A8 n8 c8) v' (l ++ ins) ∧ ins.length ≤ 3 ∧ Asked m pc (⟨10,ia,ib,ic,id,s5,s6,s7,ags⟩ : S74) ins true ∧ Below base w w' ∧ Kp w w' g v v':=by
 have HS0:=aq (IvS.start hm hbz #[.int .i64 10,.int .i64 ia,.int .i64 ib,.int .i64 ic,.int .i64 id,.string s5,.string s6,.string s7,.slice A8 n8 c8] 74)
 have HL:=aq hl
 obtain ⟨e9,e10,e11,e12,e13,e14,e15,e16,e17⟩ : w.cell? ⟨g,9,none⟩ = some (.int .i64 10) ∧ w.cell? ⟨g,10,none⟩ = some (.int .i64 ia) ∧ w.cell? ⟨g,11,none⟩ = some (.int .i64 ib) ∧ w.cell? ⟨g,12,none⟩ = some (.int .i64 ic) ∧ w.cell? ⟨g,13,none⟩ = some (.int .i64 id) ∧ w.cell? ⟨g,14,none⟩ = some (.string s5) ∧ w.cell? ⟨g,15,none⟩ = some (.string s6) ∧ w.cell? ⟨g,16,none⟩ = some (.string s7) ∧ w.cell? ⟨g,17,none⟩ = some (.slice A8 n8 c8):=⟨blk_cell hm.b 9,blk_cell hm.b 10,blk_cell hm.b 11,blk_cell hm.b 12,blk_cell hm.b 13,blk_cell hm.b 14,blk_cell hm.b 15,blk_cell hm.b 16,blk_cell hm.b 17⟩
 clear hm hbz hl
 go_enter Try.func46,Try.ntmps46
 go_wp2_with fail
 clear e9 e10 e11 e12 e13 e14 e15 e16 e17
 go_wp2_with fail
 refine (kind_text 4 ⟨#[]⟩ _ (by decide)).mono ?_
 rintro e w1 ⟨rfl,hb⟩
 have HS1:=aq (HS0.out.below hb)
 clear hb
 obtain ⟨tx,htx⟩ : ∃ tx,lb (textT classL (4,bl ⟨#[]⟩)) = tx:=⟨_,rfl⟩
 rw [htx]
 clear htx
 go_wp2_with fail
 refine (maker_fresh base g a0 a1 a2 a3 a4 m pc (.int .i64 10) (.int .i64 ia) (.int .i64 ib) (.int .i64 ic) (.int .i64 id) (.string s5) (.string s6) (.string s7) (.slice A8 n8 c8) v l ia tx w1 HS1.out.hm (by have:=HL.out;omega) HS1.out.hs).mono ?_
 rintro e w2 ⟨v2,rfl,hm,hb,hk⟩
 have HS2:=aq (HS1.out.put hm hb hk)
 clear hm hb hk
 go_wp2_with fail
 exact bodyPost_end (v:=.tuple #[]) (by simp [results,Try.results46,go_sem]) rfl (by first|exact ⟨_,[(⟨1,pc,(⟨1,m,ia,z44,z46⟩ : S50),z50,⟨m,pc,tx⟩,z44,⟨#[]⟩,z25,noSl⟩ : CV)],rfl,HS2.out.hm,Nat.le_of_ble_eq_true rfl,(asked_set rfl rfl rfl (by simp [usesR]) (fun h => absurd (show (0 : Int) = 1 from h) (by decide)) asked_nil),HS2.out.hB,HS2.out.hK⟩|exact ⟨rfl,_,[(⟨1,pc,(⟨1,m,ia,z44,z46⟩ : S50),z50,⟨m,pc,tx⟩,z44,⟨#[]⟩,z25,noSl⟩ : CV)],HS2.out.hm,Nat.le_of_ble_eq_true rfl,(asked_set rfl rfl rfl (by simp [usesR]) (fun h => absurd (show (0 : Int) = 1 from h) (by decide)) asked_nil),HS2.out.hB,HS2.out.hK⟩)
theorem iv_newrefs (base g : Nat) (a0 a1 a2 a3 a4 : Value) (m : S25) (pc : Int) (ia ib ic id : Int) (s5 s6 s7 : ByteArray) (A8 : Option Addr) (n8 c8 : Nat) (ags : List Int) (v : Value) (l : List CV) (w : World) (hs5 : s5.size ≤ 4611686018427387903) (hm : MkOwn w base g a0 a1 a2 a3 a4 m pc (.int .i64 11) (.int .i64 ia) (.int .i64 ib) (.int .i64 ic) (.int .i64 id) (.string s5) (.string s6) (.string s7) (.slice A8 n8 c8) v l) (hl : l.length + 2 ≤ 1048576) (hbz : base ≤ w.heap.size) :
  Calls Try.prog 46 #[.pointer (some ⟨g,0,none⟩)] w fun e w' => ∃ v' ins,e = .returned (.tuple #[]) ∧ MkOwn w' base g a0 a1 a2 a3 a4 m pc (.int .i64 11) (.int .i64 ia) (.int .i64 ib) (.int .i64 ic) (.int .i64 id) (.string s5) (.string s6) (.string s7) (.slice A8 n8 c8) v' (l ++ ins) ∧ ins.length ≤ 3 ∧ Asked m pc (⟨11,ia,ib,ic,id,s5,s6,s7,ags⟩ : S74) ins true ∧ Below base w w' ∧ Kp w w' g v v':=by
 have HS0:=aq (IvS.start hm hbz #[.int .i64 11,.int .i64 ia,.int .i64 ib,.int .i64 ic,.int .i64 id,.string s5,.string s6,.string s7,.slice A8 n8 c8] 74)
 have HL:=aq hl
 obtain ⟨e9,e10,e11,e12,e13,e14,e15,e16,e17⟩ : w.cell? ⟨g,9,none⟩ = some (.int .i64 11) ∧ w.cell? ⟨g,10,none⟩ = some (.int .i64 ia) ∧ w.cell? ⟨g,11,none⟩ = some (.int .i64 ib) ∧ w.cell? ⟨g,12,none⟩ = some (.int .i64 ic) ∧ w.cell? ⟨g,13,none⟩ = some (.int .i64 id) ∧ w.cell? ⟨g,14,none⟩ = some (.string s5) ∧ w.cell? ⟨g,15,none⟩ = some (.string s6) ∧ w.cell? ⟨g,16,none⟩ = some (.string s7) ∧ w.cell? ⟨g,17,none⟩ = some (.slice A8 n8 c8):=⟨blk_cell hm.b 9,blk_cell hm.b 10,blk_cell hm.b 11,blk_cell hm.b 12,blk_cell hm.b 13,blk_cell hm.b 14,blk_cell hm.b 15,blk_cell hm.b 16,blk_cell hm.b 17⟩
 clear hm hbz hl
 go_enter Try.func46,Try.ntmps46
 go_wp2_with fail
 clear e9 e10 e11 e12 e13 e14 e15 e16 e17
 have z5 : (w.alloc (Obj.cells #[.int .i64 11,.int .i64 ia,.int .i64 ib,.int .i64 ic,.int .i64 id,.string s5,.string s6,.string s7,.slice A8 n8 c8] 74)).cell? ⟨w.heap.size,5,none⟩ = some (.string s5):=blk_cell HS0.out.hz 5
 go_wp2_with fail
 refine (kind_text 5 s5 _ hs5).mono ?_
 rintro e w1 ⟨rfl,hb⟩
 have HS1:=aq (HS0.out.below hb)
 clear hb
 obtain ⟨tx,htx⟩ : ∃ tx,lb (textT classL (5,bl s5)) = tx:=⟨_,rfl⟩
 rw [htx]
 clear htx
 go_wp2_with fail
 refine (maker_fresh base g a0 a1 a2 a3 a4 m pc (.int .i64 11) (.int .i64 ia) (.int .i64 ib) (.int .i64 ic) (.int .i64 id) (.string s5) (.string s6) (.string s7) (.slice A8 n8 c8) v l ia tx w1 HS1.out.hm (by have:=HL.out;omega) HS1.out.hs).mono ?_
 rintro e w2 ⟨v2,rfl,hm,hb,hk⟩
 have HS2:=aq (HS1.out.put hm hb hk)
 clear hm hb hk
 go_wp2_with fail
 exact bodyPost_end (v:=.tuple #[]) (by simp [results,Try.results46,go_sem]) rfl (by first|exact ⟨_,[(⟨1,pc,(⟨1,m,ia,z44,z46⟩ : S50),z50,⟨m,pc,tx⟩,z44,⟨#[]⟩,z25,noSl⟩ : CV)],rfl,HS2.out.hm,Nat.le_of_ble_eq_true rfl,(asked_set rfl rfl rfl (by simp [usesR]) (fun h => absurd (show (0 : Int) = 1 from h) (by decide)) asked_nil),HS2.out.hB,HS2.out.hK⟩|exact ⟨rfl,_,[(⟨1,pc,(⟨1,m,ia,z44,z46⟩ : S50),z50,⟨m,pc,tx⟩,z44,⟨#[]⟩,z25,noSl⟩ : CV)],HS2.out.hm,Nat.le_of_ble_eq_true rfl,(asked_set rfl rfl rfl (by simp [usesR]) (fun h => absurd (show (0 : Int) = 1 from h) (by decide)) asked_nil),HS2.out.hB,HS2.out.hK⟩)
theorem iv_make (base g : Nat) (a0 a1 a2 a3 a4 : Value) (m : S25) (pc : Int) (ia ib ic id : Int) (s5 s6 s7 : ByteArray) (A8 : Option Addr) (n8 c8 : Nat) (ags : List Int) (v : Value) (l : List CV) (w : World) (hm : MkOwn w base g a0 a1 a2 a3 a4 m pc (.int .i64 28) (.int .i64 ia) (.int .i64 ib) (.int .i64 ic) (.int .i64 id) (.string s5) (.string s6) (.string s7) (.slice A8 n8 c8) v l) (hl : l.length + 2 ≤ 1048576) (hbz : base ≤ w.heap.size) :
  Calls Try.prog 46 #[.pointer (some ⟨g,0,none⟩)] w fun e w' => ∃ v' ins,e = .returned (.tuple #[]) ∧ MkOwn w' base g a0 a1 a2 a3 a4 m pc (.int .i64 28) (.int .i64 ia) (.int .i64 ib) (.int .i64 ic) (.int .i64 id) (.string s5) (.string s6) (.string s7) (.slice A8 n8 c8) v' (l ++ ins) ∧ ins.length ≤ 3 ∧ Asked m pc (⟨28,ia,ib,ic,id,s5,s6,s7,ags⟩ : S74) ins true ∧ Below base w w' ∧ Kp w w' g v v':=by
 have HS0:=aq (IvS.start hm hbz #[.int .i64 28,.int .i64 ia,.int .i64 ib,.int .i64 ic,.int .i64 id,.string s5,.string s6,.string s7,.slice A8 n8 c8] 74)
 have HL:=aq hl
 obtain ⟨e9,e10,e11,e12,e13,e14,e15,e16,e17⟩ : w.cell? ⟨g,9,none⟩ = some (.int .i64 28) ∧ w.cell? ⟨g,10,none⟩ = some (.int .i64 ia) ∧ w.cell? ⟨g,11,none⟩ = some (.int .i64 ib) ∧ w.cell? ⟨g,12,none⟩ = some (.int .i64 ic) ∧ w.cell? ⟨g,13,none⟩ = some (.int .i64 id) ∧ w.cell? ⟨g,14,none⟩ = some (.string s5) ∧ w.cell? ⟨g,15,none⟩ = some (.string s6) ∧ w.cell? ⟨g,16,none⟩ = some (.string s7) ∧ w.cell? ⟨g,17,none⟩ = some (.slice A8 n8 c8):=⟨blk_cell hm.b 9,blk_cell hm.b 10,blk_cell hm.b 11,blk_cell hm.b 12,blk_cell hm.b 13,blk_cell hm.b 14,blk_cell hm.b 15,blk_cell hm.b 16,blk_cell hm.b 17⟩
 clear hm hbz hl
 go_enter Try.func46,Try.ntmps46
 go_wp2_with fail
 clear e9 e10 e11 e12 e13 e14 e15 e16 e17
 have z1 : (w.alloc (Obj.cells #[.int .i64 28,.int .i64 ia,.int .i64 ib,.int .i64 ic,.int .i64 id,.string s5,.string s6,.string s7,.slice A8 n8 c8] 74)).cell? ⟨w.heap.size,1,none⟩ = some (.int .i64 ia):=blk_cell HS0.out.hz 1
 go_wp2_with fail
 refine (maker_reg g a0 a1 a2 a3 a4 m pc (.int .i64 28) (.int .i64 ia) (.int .i64 ib) (.int .i64 ic) (.int .i64 id) (.string s5) (.string s6) (.string s7) (.slice A8 n8 c8) v ia _ HS0.out.hm.b).mono ?_
 rintro e w1 ⟨rfl,hb⟩
 have HS1:=aq (HS0.out.below hb)
 clear hb z1
 go_wp2_with fail
 refine (put_plain base g a0 a1 a2 a3 a4 m pc (.int .i64 28) (.int .i64 ia) (.int .i64 ib) (.int .i64 ic) (.int .i64 id) (.string s5) (.string s6) (.string s7) (.slice A8 n8 c8) v l (⟨11,0,(⟨1,m,ia,z44,z46⟩ : S50),z50,⟨z25,0,⟨#[]⟩⟩,z44,⟨#[]⟩,z25,noSl⟩ : CV) w1 HS1.out.hm (show (11 : Int) ≠ 1 by decide) (by have:=HL.out;omega) HS1.out.hs).mono ?_
 rintro e w2 ⟨v2,rfl,hm,hb,hk⟩
 have HS2:=aq (HS1.out.put hm hb hk)
 clear hm hb hk
 go_wp2_with fail
 exact bodyPost_end (v:=.tuple #[]) (by simp [results,Try.results46,go_sem]) rfl (by first|exact ⟨_,[(⟨11,pc,(⟨1,m,ia,z44,z46⟩ : S50),z50,⟨m,0,⟨#[]⟩⟩,z44,⟨#[]⟩,z25,noSl⟩ : CV)],rfl,HS2.out.hm,Nat.le_of_ble_eq_true rfl,(asked_set rfl rfl rfl (by simp [usesR]) (fun h => absurd (show (0 : Int) = 1 from h) (by decide)) asked_nil),HS2.out.hB,HS2.out.hK⟩|exact ⟨rfl,_,[(⟨11,pc,(⟨1,m,ia,z44,z46⟩ : S50),z50,⟨m,0,⟨#[]⟩⟩,z44,⟨#[]⟩,z25,noSl⟩ : CV)],HS2.out.hm,Nat.le_of_ble_eq_true rfl,(asked_set rfl rfl rfl (by simp [usesR]) (fun h => absurd (show (0 : Int) = 1 from h) (by decide)) asked_nil),HS2.out.hB,HS2.out.hK⟩)
theorem iv_ask (base g : Nat) (a0 a1 a2 a3 a4 : Value) (m : S25) (pc : Int) (ia ib ic id : Int) (s5 s6 s7 : ByteArray) (A8 : Option Addr) (n8 c8 : Nat) (ags : List Int) (v : Value) (l : List CV) (w : World) (hm : MkOwn w base g a0 a1 a2 a3 a4 m pc (.int .i64 29) (.int .i64 ia) (.int .i64 ib) (.int .i64 ic) (.int .i64 id) (.string s5) (.string s6) (.string s7) (.slice A8 n8 c8) v l) (hl : l.length + 2 ≤ 1048576) (hbz : base ≤ w.heap.size) :
  Calls Try.prog 46 #[.pointer (some ⟨g,0,none⟩)] w fun e w' => ∃ v' ins,e = .returned (.tuple #[]) ∧ MkOwn w' base g a0 a1 a2 a3 a4 m pc (.int .i64 29) (.int .i64 ia) (.int .i64 ib) (.int .i64 ic) (.int .i64 id) (.string s5) (.string s6) (.string s7) (.slice A8 n8 c8) v' (l ++ ins) ∧ ins.length ≤ 3 ∧ Asked m pc (⟨29,ia,ib,ic,id,s5,s6,s7,ags⟩ : S74) ins false ∧ Below base w w' ∧ Kp w w' g v v':=by
 have HS0:=aq (IvS.start hm hbz #[.int .i64 29,.int .i64 ia,.int .i64 ib,.int .i64 ic,.int .i64 id,.string s5,.string s6,.string s7,.slice A8 n8 c8] 74)
 have HL:=aq hl
 obtain ⟨e9,e10,e11,e12,e13,e14,e15,e16,e17⟩ : w.cell? ⟨g,9,none⟩ = some (.int .i64 29) ∧ w.cell? ⟨g,10,none⟩ = some (.int .i64 ia) ∧ w.cell? ⟨g,11,none⟩ = some (.int .i64 ib) ∧ w.cell? ⟨g,12,none⟩ = some (.int .i64 ic) ∧ w.cell? ⟨g,13,none⟩ = some (.int .i64 id) ∧ w.cell? ⟨g,14,none⟩ = some (.string s5) ∧ w.cell? ⟨g,15,none⟩ = some (.string s6) ∧ w.cell? ⟨g,16,none⟩ = some (.string s7) ∧ w.cell? ⟨g,17,none⟩ = some (.slice A8 n8 c8):=⟨blk_cell hm.b 9,blk_cell hm.b 10,blk_cell hm.b 11,blk_cell hm.b 12,blk_cell hm.b 13,blk_cell hm.b 14,blk_cell hm.b 15,blk_cell hm.b 16,blk_cell hm.b 17⟩
 clear hm hbz hl
 go_enter Try.func46,Try.ntmps46
 go_wp2_with fail
 clear e9 e10 e11 e12 e13 e14 e15 e16 e17
 go_wp2_with fail
 refine (put_plain base g a0 a1 a2 a3 a4 m pc (.int .i64 29) (.int .i64 ia) (.int .i64 ib) (.int .i64 ic) (.int .i64 id) (.string s5) (.string s6) (.string s7) (.slice A8 n8 c8) v l (⟨12,0,z50,z50,⟨z25,0,⟨#[]⟩⟩,z44,⟨#[]⟩,z25,noSl⟩ : CV) _ HS0.out.hm (show (12 : Int) ≠ 1 by decide) (by have:=HL.out;omega) HS0.out.hs).mono ?_
 rintro e w1 ⟨v1,rfl,hm,hb,hk⟩
 have HS1:=aq (HS0.out.put hm hb hk)
 clear hm hb hk
 go_wp2_with fail
 exact bodyPost_end (v:=.tuple #[]) (by simp [results,Try.results46,go_sem]) rfl (by first|exact ⟨_,[(⟨12,pc,z50,z50,⟨m,0,⟨#[]⟩⟩,z44,⟨#[]⟩,z25,noSl⟩ : CV)],rfl,HS1.out.hm,Nat.le_of_ble_eq_true rfl,(asked_cons rfl rfl (fun h => absurd (show (0 : Int) = 1 from h) (by decide)) (fun h => absurd (show (0 : Int) = 1 from h) (by decide)) asked_nil),HS1.out.hB,HS1.out.hK⟩|exact ⟨rfl,_,[(⟨12,pc,z50,z50,⟨m,0,⟨#[]⟩⟩,z44,⟨#[]⟩,z25,noSl⟩ : CV)],HS1.out.hm,Nat.le_of_ble_eq_true rfl,(asked_cons rfl rfl (fun h => absurd (show (0 : Int) = 1 from h) (by decide)) (fun h => absurd (show (0 : Int) = 1 from h) (by decide)) asked_nil),HS1.out.hB,HS1.out.hK⟩)
theorem iv_none (base g : Nat) (a0 a1 a2 a3 a4 : Value) (m : S25) (pc : Int) (op ia ib ic id : Int) (s5 s6 s7 : ByteArray) (A8 : Option Addr) (n8 c8 : Nat) (ags : List Int) (v : Value) (l : List CV) (w : World) (hop : ∀ n ∈ [(4 : Int), (25 : Int), (9 : Int), (10 : Int), (11 : Int), (13 : Int), (14 : Int), (15 : Int), (16 : Int), (17 : Int), (18 : Int), (19 : Int), (20 : Int), (21 : Int), (22 : Int), (28 : Int), (29 : Int), (32 : Int)], op ≠ n) (hm : MkOwn w base g a0 a1 a2 a3 a4 m pc (.int .i64 op) (.int .i64 ia) (.int .i64 ib) (.int .i64 ic) (.int .i64 id) (.string s5) (.string s6) (.string s7) (.slice A8 n8 c8) v l) (hl : l.length + 2 ≤ 1048576) (hbz : base ≤ w.heap.size) :
  Calls Try.prog 46 #[.pointer (some ⟨g,0,none⟩)] w fun e w' => ∃ v' ins,e = .returned (.tuple #[]) ∧ MkOwn w' base g a0 a1 a2 a3 a4 m pc (.int .i64 op) (.int .i64 ia) (.int .i64 ib) (.int .i64 ic) (.int .i64 id) (.string s5) (.string s6) (.string s7) (.slice A8 n8 c8) v' (l ++ ins) ∧ ins.length ≤ 3 ∧ Asked m pc (⟨op,ia,ib,ic,id,s5,s6,s7,ags⟩ : S74) ins false ∧ Below base w w' ∧ Kp w w' g v v':=by
 have k4 : (op == 4) = false:=beq_eq_false_iff_ne.2 (hop 4 (by decide))
 have k25 : (op == 25) = false:=beq_eq_false_iff_ne.2 (hop 25 (by decide))
 have k9 : (op == 9) = false:=beq_eq_false_iff_ne.2 (hop 9 (by decide))
 have k10 : (op == 10) = false:=beq_eq_false_iff_ne.2 (hop 10 (by decide))
 have k11 : (op == 11) = false:=beq_eq_false_iff_ne.2 (hop 11 (by decide))
 have k13 : (op == 13) = false:=beq_eq_false_iff_ne.2 (hop 13 (by decide))
 have k14 : (op == 14) = false:=beq_eq_false_iff_ne.2 (hop 14 (by decide))
 have k15 : (op == 15) = false:=beq_eq_false_iff_ne.2 (hop 15 (by decide))
 have k16 : (op == 16) = false:=beq_eq_false_iff_ne.2 (hop 16 (by decide))
 have k17 : (op == 17) = false:=beq_eq_false_iff_ne.2 (hop 17 (by decide))
 have k18 : (op == 18) = false:=beq_eq_false_iff_ne.2 (hop 18 (by decide))
 have k19 : (op == 19) = false:=beq_eq_false_iff_ne.2 (hop 19 (by decide))
 have k20 : (op == 20) = false:=beq_eq_false_iff_ne.2 (hop 20 (by decide))
 have k21 : (op == 21) = false:=beq_eq_false_iff_ne.2 (hop 21 (by decide))
 have k22 : (op == 22) = false:=beq_eq_false_iff_ne.2 (hop 22 (by decide))
 have k28 : (op == 28) = false:=beq_eq_false_iff_ne.2 (hop 28 (by decide))
 have k29 : (op == 29) = false:=beq_eq_false_iff_ne.2 (hop 29 (by decide))
 have k32 : (op == 32) = false:=beq_eq_false_iff_ne.2 (hop 32 (by decide))
 clear hop
 have HS0:=aq (IvS.start hm hbz #[.int .i64 op,.int .i64 ia,.int .i64 ib,.int .i64 ic,.int .i64 id,.string s5,.string s6,.string s7,.slice A8 n8 c8] 74)
 have HL:=aq hl
 obtain ⟨e9,e10,e11,e12,e13,e14,e15,e16,e17⟩ : w.cell? ⟨g,9,none⟩ = some (.int .i64 op) ∧ w.cell? ⟨g,10,none⟩ = some (.int .i64 ia) ∧ w.cell? ⟨g,11,none⟩ = some (.int .i64 ib) ∧ w.cell? ⟨g,12,none⟩ = some (.int .i64 ic) ∧ w.cell? ⟨g,13,none⟩ = some (.int .i64 id) ∧ w.cell? ⟨g,14,none⟩ = some (.string s5) ∧ w.cell? ⟨g,15,none⟩ = some (.string s6) ∧ w.cell? ⟨g,16,none⟩ = some (.string s7) ∧ w.cell? ⟨g,17,none⟩ = some (.slice A8 n8 c8):=⟨blk_cell hm.b 9,blk_cell hm.b 10,blk_cell hm.b 11,blk_cell hm.b 12,blk_cell hm.b 13,blk_cell hm.b 14,blk_cell hm.b 15,blk_cell hm.b 16,blk_cell hm.b 17⟩
 clear hm hbz hl
 go_enter Try.func46,Try.ntmps46
 go_wp2_with fail
 clear e9 e10 e11 e12 e13 e14 e15 e16 e17
 go_wp2_with fail
 exact bodyPost_end (v:=.tuple #[]) (by simp [results,Try.results46,go_sem]) rfl (by first|exact ⟨_,[],rfl,(by rw [List.append_nil];exact HS0.out.hm),Nat.le_of_ble_eq_true rfl,asked_nil,HS0.out.hB,HS0.out.hK⟩|exact ⟨rfl,_,[],(by rw [List.append_nil];exact HS0.out.hm),Nat.le_of_ble_eq_true rfl,asked_nil,HS0.out.hB,HS0.out.hK⟩)
theorem IvS.inner {w X W : World} {base g n : Nat} {a0 a1 a2 a3 a4 : Value} {m : S25} {pc : Int} {b0 b1 b2 b3 b4 b5 b6 b7 b8 : Value} {v : Value} {l : List CV} {cs : Array Value} {ty : TypeId} (hm : MkOwn X base g a0 a1 a2 a3 a4 m pc b0 b1 b2 b3 b4 b5 b6 b7 b8 v l) (hx : Below w.heap.size w X) (hbz : base ≤ w.heap.size) (hb : Below X.heap.size X W) (hz : W.heap[n]? = some (.cells cs ty (0, 0))) (hn : X.heap.size ≤ n) : IvS w W base g a0 a1 a2 a3 a4 m pc b0 b1 b2 b3 b4 b5 b6 b7 b8 v v l n cs ty :=
 ⟨hm.below hb (Nat.le_trans hbz hx.size),(hx.mono hbz).trans (hb.mono (Nat.le_trans hbz hx.size)),Kp.ofBelow (hx.trans (hb.mono hx.size)),hz,fun e => by have:=blk_lt hm.b;omega,fun e => by have:=Kd.R_lt hm.r _ e.symm;omega,Nat.le_trans (Nat.le_trans hbz hx.size) hb.size⟩
theorem mk_field15 (base g : Nat) (A0 : Option Addr) (c0 : Nat) (l0 : List S33) (A1 : Option Addr) (c1 : Nat) (l1 : List ByteArray) (a2 a3 a4 : ByteArray) (m : S25) (pc : Int) (ia ib ic id : Int) (s5 s6 s7 : ByteArray) (A8 : Option Addr) (n8 c8 : Nat) (ags : List Int) (v : Value) (l : List CV) (w : World) (hm : MkOwn w base g (.slice A0 l0.length c0) (.slice A1 l1.length c1) (.string a2) (.string a3) (.string a4) m pc (.int .i64 15) (.int .i64 ia) (.int .i64 ib) (.int .i64 ic) (.int .i64 id) (.string s5) (.string s6) (.string s7) (.slice A8 n8 c8) v l) (hl : l.length + 2 ≤ 1048576) (hbz : base ≤ w.heap.size) (hr0 : Kd.C k33 w A0 l0.length l0) (hc0 : l0.length ≤ c0) (hr1 : Kd.C Kd.string w A1 l1.length l1) (hc1 : l1.length ≤ c1) (r1 r2 : ByteArray) (ok : Bool) (hf : find_Field.f l0 l1 a2 a3 a4 s5 s6 = some (r1, r2, ok)) :
  Calls Try.prog 72 #[.pointer (some ⟨g,0,none⟩)] w fun e w' => ∃ v' ins,e = .returned (.tuple #[]) ∧ MkOwn w' base g (.slice A0 l0.length c0) (.slice A1 l1.length c1) (.string a2) (.string a3) (.string a4) m pc (.int .i64 15) (.int .i64 ia) (.int .i64 ib) (.int .i64 ic) (.int .i64 id) (.string s5) (.string s6) (.string s7) (.slice A8 n8 c8) v' (l ++ ins) ∧ ins.length ≤ 3 ∧ Asked m pc (⟨15,ia,ib,ic,id,s5,s6,s7,ags⟩ : S74) ins ok ∧ Below base w w' ∧ Kp w w' g v v':=by
 have HFD : Aside0 (∀ W,Below w.drew.heap.size w.drew W → Calls Try.prog 90 #[.agg (pG A0 l0 c0 A1 l1 c1 a2 a3 a4),.agg #[.string s5,.string s6]] W fun e w' => e = .returned (.tuple #[.agg #[.string r1,.string r2],.bool ok]) ∧ Below W.heap.size W w'):=⟨fun W hW => find_Field.calls A0 c0 l0 A1 c1 l1 a2 a3 a4 s5 s6 r1 r2 ok W (Kd.C_below hr0 ((below_drew1 (Below.refl _ _)).trans hW)) hc0 (Kd.C_below hr1 ((below_drew1 (Below.refl _ _)).trans hW)) hc1 hf⟩
 have HM0 : Aside0 (MkOwn w.drew base g (.slice A0 l0.length c0) (.slice A1 l1.length c1) (.string a2) (.string a3) (.string a4) m pc (.int .i64 15) (.int .i64 ia) (.int .i64 ib) (.int .i64 ic) (.int .i64 id) (.string s5) (.string s6) (.string s7) (.slice A8 n8 c8) v l):=⟨hm.below (below_drew1 (Below.refl _ _)) hbz⟩
 have HXB : Aside0 (Below w.heap.size w w.drew):=⟨below_drew1 (Below.refl _ _)⟩
 have HBc : Aside0 (Below w.drew.heap.size w.drew w.drew):=⟨Below.refl _ _⟩
 have HBz:=aq hbz
 have HL:=aq hl
 have z0 : w.drew.cell? ⟨g,0,none⟩ = some (.slice A0 l0.length c0):=blk_cell HM0.out.b 0
 have z1 : w.drew.cell? ⟨g,1,none⟩ = some (.slice A1 l1.length c1):=blk_cell HM0.out.b 1
 have z2 : w.drew.cell? ⟨g,2,none⟩ = some (.string a2):=blk_cell HM0.out.b 2
 have z3 : w.drew.cell? ⟨g,3,none⟩ = some (.string a3):=blk_cell HM0.out.b 3
 have z4 : w.drew.cell? ⟨g,4,none⟩ = some (.string a4):=blk_cell HM0.out.b 4
 have z5 : w.drew.cell? ⟨g,14,none⟩ = some (.string s5):=blk_cell HM0.out.b 14
 have z6 : w.drew.cell? ⟨g,15,none⟩ = some (.string s6):=blk_cell HM0.out.b 15
 clear hm hl hbz hr0 hr1 hf
 go_enter Try.func72,Try.ntmps72
 go_wp2_with fail
 refine start_ (n:=22) (S:=fun w' => w'.cell? ⟨g,0,none⟩ = some (.slice A0 l0.length c0) ∧ w'.cell? ⟨g,1,none⟩ = some (.slice A1 l1.length c1) ∧ w'.cell? ⟨g,2,none⟩ = some (.string a2) ∧ w'.cell? ⟨g,3,none⟩ = some (.string a3) ∧ w'.cell? ⟨g,4,none⟩ = some (.string a4) ∧ w'.cell? ⟨g,14,none⟩ = some (.string s5) ∧ w'.cell? ⟨g,15,none⟩ = some (.string s6)) (ds:=[20]) (Array.replicate 22 false) (by kernel_rfl) rfl rfl ⟨z0,z1,z2,z3,z4,z5,z6⟩ (fun hHeld => ?_)
 generalize w.drew = X at HM0 HFD HBc HXB z0 z1 z2 z3 z4 z5 z6 hHeld ⊢
 refine sP (i:=0) (N:=some 5) ?_
 refine sP (i:=1) (N:=some 6) ?_
 refine sP (i:=2) (N:=some 7) ?_
 refine sP (i:=4) (N:=some 9) ?_
 refine sP (i:=5) (N:=some 10) ?_
 refine sP (i:=6) (N:=some 11) ?_
 refine sP (i:=7) (N:=some 12) ?_
 refine sP (i:=9) (N:=some 14) ?_
 refine sP (i:=10) (N:=some 15) ?_
 refine sP (i:=11) (N:=some 16) ?_
 refine sP (i:=12) (N:=some 17) ?_
 refine sT (i:=3) (N:=some 8) hHeld ?_
 refine sT (i:=8) (N:=some 13) hHeld ?_
 refine sT (i:=13) (N:=some 18) hHeld ?_
 refine sP (i:=14) (N:=some 19) ?_
 refine join_ (σ:=Nat) 2 #[true,true,true,true,true,true,true,true,true,true,true,true,true,true,true,true,true,true,true,true,false,false] (fun s => [(20,.tuple #[.agg #[.string r1,.string r2],.bool ok]),(4,.tuple #[.agg #[.string r1,.string r2],.bool ok]),(21,.agg #[.string r1,.string r2]),(22,.bool ok),(2,.pointer (some ⟨s,0,none⟩))]) (fun s w' => w'.heap[s]? = some (Obj.cells #[.string ⟨#[]⟩,.string ⟨#[]⟩] 44 (0,0)) ∧ Below X.heap.size X w' ∧ X.heap.size ≤ s) ?_ ?_
 rotate_left
 ·
  intro hCont
  refine sW (i:=15) (j:=19) (Ni:=some 20) (Nj:=some 2) (fun K hK => ?_) fun K hK => ?_
  ·
   skip
   refine sG Try.func90 #[.agg (pG A0 l0 c0 A1 l1 c1 a2 a3 a4),.agg #[.string s5,.string s6]] ?_
   refine (HFD.out X HBc.out).mono ?_
   rintro e w4 ⟨rfl,hb⟩
   refine ⟨_,rfl,?_⟩
   replace HBc:=aq (HBc.out.trans (hb.mono HBc.out.size))
   clear hb
   refine hK.out _ _ ⟨(sC HBc.out z0),(sC HBc.out z1),(sC HBc.out z2),(sC HBc.out z3),(sC HBc.out z4),(sC HBc.out z5),(sC HBc.out z6)⟩ (fun hHeld => ?_)
   clear hK K
   refine sN ?_
   refine sP (i:=16) (N:=some 4) ?_
   refine sP (i:=17) (N:=some 21) ?_
   refine sP (i:=18) (N:=some 22) ?_
   refine sO (i:=19) (N:=some 2) fun K hK => ?_
   refine value_ (w1:=?_) (v:=?_) (by rfl) rfl ?_ ?_
   rotate_left 2
   ·
    go_simp
    constructor
    ·
     rfl
    ·
     rfl
   have HG : Aside0 (X.heap.size ≤ w4.heap.size):=⟨HBc.out.size⟩
   have hb : Below w4.heap.size w4 (w4.alloc (Obj.cells #[.string ⟨#[]⟩,.string ⟨#[]⟩] 44)):=below_alloc (Below.refl _ _) _
   replace HBc:=aq (HBc.out.trans (hb.mono HBc.out.size))
   have HF:=aq (World.alloc_heap_new w4 (Obj.cells #[.string ⟨#[]⟩,.string ⟨#[]⟩] 44))
   clear hb
   refine hK.out _ _ ⟨(sC HBc.out z0),(sC HBc.out z1),(sC HBc.out z2),(sC HBc.out z3),(sC HBc.out z4),(sC HBc.out z5),(sC HBc.out z6)⟩ (fun hHeld => ?_)
   clear hK K
   refine sN ?_
   exact norm_ (by simp only [putAll,Act.put,List.setIfInBounds_toArray,List.set_cons_zero,List.set_cons_succ]) (hCont w4.heap.size _ ⟨HF.out,HBc.out,HG.out⟩)
  ·
   skip
   refine value_ (w1:=?_) (v:=?_) (by rfl) rfl ?_ ?_
   rotate_left 2
   ·
    go_simp
    constructor
    ·
     rfl
    ·
     rfl
   have HG : Aside0 (X.heap.size ≤ X.heap.size):=⟨HBc.out.size⟩
   have hb : Below X.heap.size X (X.alloc (Obj.cells #[.string ⟨#[]⟩,.string ⟨#[]⟩] 44)):=below_alloc (Below.refl _ _) _
   replace HBc:=aq (HBc.out.trans (hb.mono HBc.out.size))
   have HF:=aq (World.alloc_heap_new X (Obj.cells #[.string ⟨#[]⟩,.string ⟨#[]⟩] 44))
   clear hb
   refine hK.out _ _ ⟨(sC HBc.out z0),(sC HBc.out z1),(sC HBc.out z2),(sC HBc.out z3),(sC HBc.out z4),(sC HBc.out z5),(sC HBc.out z6)⟩ (fun hHeld => ?_)
   clear hK K
   refine sN ?_
   refine sO (i:=15) (N:=some 20) fun K hK => ?_
   refine sG Try.func90 #[.agg (pG A0 l0 c0 A1 l1 c1 a2 a3 a4),.agg #[.string s5,.string s6]] ?_
   refine (HFD.out (X.alloc (Obj.cells #[.string ⟨#[]⟩,.string ⟨#[]⟩] 44)) HBc.out).mono ?_
   rintro e w4 ⟨rfl,hb⟩
   refine ⟨_,rfl,?_⟩
   replace HF:=aq (blk_below HF.out hb)
   replace HBc:=aq (HBc.out.trans (hb.mono HBc.out.size))
   clear hb
   refine hK.out _ _ ⟨(sC HBc.out z0),(sC HBc.out z1),(sC HBc.out z2),(sC HBc.out z3),(sC HBc.out z4),(sC HBc.out z5),(sC HBc.out z6)⟩ (fun hHeld => ?_)
   clear hK K
   refine sN ?_
   refine sP (i:=16) (N:=some 4) ?_
   refine sP (i:=17) (N:=some 21) ?_
   refine sP (i:=18) (N:=some 22) ?_
   exact norm_ (by simp only [putAll,Act.put,List.setIfInBounds_toArray,List.set_cons_zero,List.set_cons_succ]) (hCont X.heap.size _ ⟨HF.out,HBc.out,HG.out⟩)
 rintro n w7 ⟨hf,hb,hg⟩
 replace HBc:=aq hb
 have hHeld : w7.cell? ⟨g,0,none⟩ = some (.slice A0 l0.length c0) ∧ w7.cell? ⟨g,1,none⟩ = some (.slice A1 l1.length c1) ∧ w7.cell? ⟨g,2,none⟩ = some (.string a2) ∧ w7.cell? ⟨g,3,none⟩ = some (.string a3) ∧ w7.cell? ⟨g,4,none⟩ = some (.string a4) ∧ w7.cell? ⟨g,14,none⟩ = some (.string s5) ∧ w7.cell? ⟨g,15,none⟩ = some (.string s6):=⟨(sC HBc.out z0),(sC HBc.out z1),(sC HBc.out z2),(sC HBc.out z3),(sC HBc.out z4),(sC HBc.out z5),(sC HBc.out z6)⟩
 have HF:=aq hf
 have HG:=aq hg
 clear hf hb hg
 obtain ⟨e0,e1⟩:=cells2f HF.out
 have ef:=blk_frozen HF.out
 refine norm_ (a':=?_) ?_ ?_
 rotate_left
 ·
  simp only [putAll,Act.put,List.setIfInBounds_toArray,List.set_cons_zero,List.set_cons_succ]
  rfl
 refine sX (i:=20) (N:=none) fun K hK => ?_
 refine skip_ (w1:=?_) (by rfl) rfl ?_ ?_
 rotate_left
 ·
  go_simp
  rfl
 have hz8:=set2_own HF.out (.string r1) (.string r2)
 have hb8:=(HBc.out.setCell (p:=⟨n,0,none⟩) HG.out (.string r1)).setCell (p:=⟨n,1,none⟩) HG.out (.string r2)
 generalize ((w7.setCell ⟨n,0,none⟩ (.string r1)).setCell ⟨n,1,none⟩ (.string r2)) = w8 at hz8 hb8 ⊢
 have HZ8:=aq hz8
 have HB8:=aq hb8
 clear hz8 hb8 e0 e1 ef
 refine hK.out _ _ ?_
 clear hK K
 refine sP (i:=21) (N:=some 3) ?_
 refine done_ (by kernel_rfl) ?_
 have HS8 : Aside0 (IvS w w8 base g (.slice A0 l0.length c0) (.slice A1 l1.length c1) (.string a2) (.string a3) (.string a4) m pc (.int .i64 15) (.int .i64 ia) (.int .i64 ib) (.int .i64 ic) (.int .i64 id) (.string s5) (.string s6) (.string s7) (.slice A8 n8 c8) v v l n #[.string r1,.string r2] 44):=⟨IvS.inner HM0.out HXB.out HBz.out HB8.out HZ8.out HG.out⟩
 clear hHeld z0 z1 z2 z3 z4 z5 z6 HM0 HBc HXB HF HB8 HZ8 HG HFD
 cases ok
 ·
  go_wp2_with fail
  exact bodyPost_ret (v:=.tuple #[]) (by simp [results,Try.results72,go_sem]) rfl (by first|exact ⟨_,[],rfl,(by rw [List.append_nil];exact HS8.out.hm),Nat.le_of_ble_eq_true rfl,asked_nil,HS8.out.hB,HS8.out.hK⟩|exact ⟨rfl,_,[],(by rw [List.append_nil];exact HS8.out.hm),Nat.le_of_ble_eq_true rfl,asked_nil,HS8.out.hB,HS8.out.hK⟩)
 have k9 : w8.cell? ⟨g,9,none⟩ = some (.int .i64 15):=blk_cell HS8.out.hm.b 9
 have f0 : w8.cell? ⟨n,0,none⟩ = some (.string r1):=blk_cell HS8.out.hz 0
 have f1 : w8.cell? ⟨n,1,none⟩ = some (.string r2):=blk_cell HS8.out.hz 1
 go_wp2_with fail
 clear k9
 refine (put_plain base g (.slice A0 l0.length c0) (.slice A1 l1.length c1) (.string a2) (.string a3) (.string a4) m pc (.int .i64 15) (.int .i64 ia) (.int .i64 ib) (.int .i64 ic) (.int .i64 id) (.string s5) (.string s6) (.string s7) (.slice A8 n8 c8) v (l) (⟨8,0,z50,z50,⟨z25,0,⟨#[]⟩⟩,(⟨r1,r2⟩ : S44),⟨#[]⟩,z25,noSl⟩ : CV) w8 HS8.out.hm (show (8 : Int) ≠ 1 by decide) (by have:=HL.out;(try simp only [List.length_append,List.length_cons,List.length_nil]);omega) HS8.out.hs).mono ?_
 rintro e w9 ⟨v1,rfl,hm,hb,hk⟩
 have HS9:=aq (HS8.out.put hm hb hk)
 clear hm hb hk
 clear f0 f1
 have HS : Aside0 (IvS w w9.drew base g (.slice A0 l0.length c0) (.slice A1 l1.length c1) (.string a2) (.string a3) (.string a4) m pc (.int .i64 15) (.int .i64 ia) (.int .i64 ib) (.int .i64 ic) (.int .i64 id) (.string s5) (.string s6) (.string s7) (.slice A8 n8 c8) v v1 (l ++ [(⟨8,pc,z50,z50,⟨m,0,⟨#[]⟩⟩,(⟨r1,r2⟩ : S44),⟨#[]⟩,z25,noSl⟩ : CV)]) n #[.string r1,.string r2] 44):=⟨HS9.out.below (below_drew1 (Below.refl _ _))⟩
 have z0 : w9.drew.cell? ⟨g,10,none⟩ = some (.int .i64 ia):=blk_cell HS.out.hm.b 10
 have z1 : w9.drew.cell? ⟨g,11,none⟩ = some (.int .i64 ib):=blk_cell HS.out.hm.b 11
 have z2 : w9.drew.cell? ⟨n,0,none⟩ = some (.string r1):=blk_cell HS.out.hz 0
 have z3 : w9.drew.cell? ⟨n,1,none⟩ = some (.string r2):=blk_cell HS.out.hz 1
 go_wp2_with fail
 refine start_ (n:=18) (S:=fun w' => w'.cell? ⟨g,10,none⟩ = some (.int .i64 ia) ∧ w'.cell? ⟨g,11,none⟩ = some (.int .i64 ib) ∧ w'.cell? ⟨n,0,none⟩ = some (.string r1) ∧ w'.cell? ⟨n,1,none⟩ = some (.string r2)) (ds:=[17]) (Array.replicate 18 false) (by kernel_rfl) rfl rfl ⟨z0,z1,z2,z3⟩ (fun hHeld => ?_)
 generalize w9.drew = X at HS z0 z1 z2 z3 hHeld ⊢
 refine sP (i:=0) (N:=some 36) ?_
 refine sP (i:=1) (N:=some 37) ?_
 refine sP (i:=2) (N:=some 38) ?_
 refine sP (i:=3) (N:=some 39) ?_
 refine sP (i:=4) (N:=some 40) ?_
 refine sP (i:=5) (N:=some 41) ?_
 refine sP (i:=8) (N:=some 44) ?_
 refine sP (i:=9) (N:=some 45) ?_
 refine sP (i:=10) (N:=some 46) ?_
 refine sP (i:=11) (N:=some 47) ?_
 refine sP (i:=12) (N:=some 48) ?_
 refine sT (i:=6) (N:=some 42) hHeld ?_
 refine sT (i:=13) (N:=some 49) hHeld ?_
 refine sT (i:=15) (N:=some 51) hHeld ?_
 refine sO (i:=7) (N:=some 43) fun K hK => ?_
 refine sG Try.func38 #[.pointer (some ⟨g,0,none⟩),.int .i64 ia] ?_
 refine (maker_reg g (.slice A0 l0.length c0) (.slice A1 l1.length c1) (.string a2) (.string a3) (.string a4) m pc (.int .i64 15) (.int .i64 ia) (.int .i64 ib) (.int .i64 ic) (.int .i64 id) (.string s5) (.string s6) (.string s7) (.slice A8 n8 c8) v1 ia X HS.out.hm.b).mono ?_
 rintro e w1 ⟨rfl,hb⟩
 refine ⟨_,rfl,?_⟩
 have y0:=sC hb z0
 have y1:=sC hb z1
 have y2:=sC hb z2
 have y3:=sC hb z3
 have HT1:=aq (HS.out.below hb)
 clear hb
 refine hK.out _ _ ⟨y0,y1,y2,y3⟩ (fun hHeld => ?_)
 clear hK K
 refine sN ?_
 refine sO (i:=14) (N:=some 50) fun K hK => ?_
 refine sG Try.func38 #[.pointer (some ⟨g,0,none⟩),.int .i64 ib] ?_
 refine (maker_reg g (.slice A0 l0.length c0) (.slice A1 l1.length c1) (.string a2) (.string a3) (.string a4) m pc (.int .i64 15) (.int .i64 ia) (.int .i64 ib) (.int .i64 ic) (.int .i64 id) (.string s5) (.string s6) (.string s7) (.slice A8 n8 c8) v1 ib w1 HT1.out.hm.b).mono ?_
 rintro e w2 ⟨rfl,hb⟩
 refine ⟨_,rfl,?_⟩
 have x0:=sC hb y0
 have x1:=sC hb y1
 have x2:=sC hb y2
 have x3:=sC hb y3
 have HT2:=aq (HT1.out.below hb)
 clear hb
 refine hK.out _ _ ⟨x0,x1,x2,x3⟩ (fun hHeld => ?_)
 clear hK K
 refine sN ?_
 refine sP (i:=16) (N:=some 52) ?_
 refine sX (i:=17) (N:=some 53) fun K hK => ?_
 refine sG Try.func61 #[.pointer (some ⟨g,0,none⟩),.agg (List.toArray ((kK 3 0 (qR 1 m ia (qR 1 m ib (sZ (fS r1 r2 (kS ⟨#[]⟩ (mZ [.slice none 0 0])))))))))] ?_
 refine (put_plain base g (.slice A0 l0.length c0) (.slice A1 l1.length c1) (.string a2) (.string a3) (.string a4) m pc (.int .i64 15) (.int .i64 ia) (.int .i64 ib) (.int .i64 ic) (.int .i64 id) (.string s5) (.string s6) (.string s7) (.slice A8 n8 c8) v1 (l ++ [(⟨8,pc,z50,z50,⟨m,0,⟨#[]⟩⟩,(⟨r1,r2⟩ : S44),⟨#[]⟩,z25,noSl⟩ : CV)]) (⟨3,0,(⟨1,m,ia,z44,z46⟩ : S50),(⟨1,m,ib,z44,z46⟩ : S50),⟨z25,0,⟨#[]⟩⟩,(⟨r1,r2⟩ : S44),⟨#[]⟩,z25,noSl⟩ : CV) w2 HT2.out.hm (show (3 : Int) ≠ 1 by decide) (by have:=HL.out;(try simp only [List.length_append,List.length_cons,List.length_nil]);omega) HT2.out.hs).mono ?_
 rintro e w3 ⟨v3,rfl,hm3,hb3,hk3⟩
 refine ⟨_,rfl,?_⟩
 have HS3:=aq (HT2.out.put hm3 hb3 hk3)
 clear hm3 hb3 hk3
 refine hK.out _ _ ?_
 clear hK K
 refine sN ?_
 refine done_ (by kernel_rfl) ?_
 go_wp2_with fail
 try simp only [List.append_assoc,List.cons_append,List.nil_append] at HS3
 exact bodyPost_end (v:=.tuple #[]) (by simp [results,Try.results72,go_sem]) rfl (by first|exact ⟨_,[(⟨8,pc,z50,z50,⟨m,0,⟨#[]⟩⟩,(⟨r1,r2⟩ : S44),⟨#[]⟩,z25,noSl⟩ : CV),(⟨3,pc,(⟨1,m,ia,z44,z46⟩ : S50),(⟨1,m,ib,z44,z46⟩ : S50),⟨m,0,⟨#[]⟩⟩,(⟨r1,r2⟩ : S44),⟨#[]⟩,z25,noSl⟩ : CV)],rfl,HS3.out.hm,Nat.le_of_ble_eq_true rfl,(asked_cons rfl rfl (fun h => absurd (show (0 : Int) = 1 from h) (by decide)) (fun h => absurd (show (0 : Int) = 1 from h) (by decide)) (asked_set rfl rfl rfl (by simp [usesR]) (fun _ => ⟨rfl,by simp [usesR]⟩) asked_nil)),HS3.out.hB,HS3.out.hK⟩|exact ⟨rfl,_,[(⟨8,pc,z50,z50,⟨m,0,⟨#[]⟩⟩,(⟨r1,r2⟩ : S44),⟨#[]⟩,z25,noSl⟩ : CV),(⟨3,pc,(⟨1,m,ia,z44,z46⟩ : S50),(⟨1,m,ib,z44,z46⟩ : S50),⟨m,0,⟨#[]⟩⟩,(⟨r1,r2⟩ : S44),⟨#[]⟩,z25,noSl⟩ : CV)],HS3.out.hm,Nat.le_of_ble_eq_true rfl,(asked_cons rfl rfl (fun h => absurd (show (0 : Int) = 1 from h) (by decide)) (fun h => absurd (show (0 : Int) = 1 from h) (by decide)) (asked_set rfl rfl rfl (by simp [usesR]) (fun _ => ⟨rfl,by simp [usesR]⟩) asked_nil)),HS3.out.hB,HS3.out.hK⟩)
theorem mk_field16 (base g : Nat) (A0 : Option Addr) (c0 : Nat) (l0 : List S33) (A1 : Option Addr) (c1 : Nat) (l1 : List ByteArray) (a2 a3 a4 : ByteArray) (m : S25) (pc : Int) (ia ib ic id : Int) (s5 s6 s7 : ByteArray) (A8 : Option Addr) (n8 c8 : Nat) (ags : List Int) (v : Value) (l : List CV) (w : World) (hm : MkOwn w base g (.slice A0 l0.length c0) (.slice A1 l1.length c1) (.string a2) (.string a3) (.string a4) m pc (.int .i64 16) (.int .i64 ia) (.int .i64 ib) (.int .i64 ic) (.int .i64 id) (.string s5) (.string s6) (.string s7) (.slice A8 n8 c8) v l) (hl : l.length + 2 ≤ 1048576) (hbz : base ≤ w.heap.size) (hr0 : Kd.C k33 w A0 l0.length l0) (hc0 : l0.length ≤ c0) (hr1 : Kd.C Kd.string w A1 l1.length l1) (hc1 : l1.length ≤ c1) (r1 r2 : ByteArray) (ok : Bool) (hf : find_Field.f l0 l1 a2 a3 a4 s5 s6 = some (r1, r2, ok)) :
  Calls Try.prog 72 #[.pointer (some ⟨g,0,none⟩)] w fun e w' => ∃ v' ins,e = .returned (.tuple #[]) ∧ MkOwn w' base g (.slice A0 l0.length c0) (.slice A1 l1.length c1) (.string a2) (.string a3) (.string a4) m pc (.int .i64 16) (.int .i64 ia) (.int .i64 ib) (.int .i64 ic) (.int .i64 id) (.string s5) (.string s6) (.string s7) (.slice A8 n8 c8) v' (l ++ ins) ∧ ins.length ≤ 3 ∧ Asked m pc (⟨16,ia,ib,ic,id,s5,s6,s7,ags⟩ : S74) ins false ∧ Below base w w' ∧ Kp w w' g v v':=by
 have HFD : Aside0 (∀ W,Below w.drew.heap.size w.drew W → Calls Try.prog 90 #[.agg (pG A0 l0 c0 A1 l1 c1 a2 a3 a4),.agg #[.string s5,.string s6]] W fun e w' => e = .returned (.tuple #[.agg #[.string r1,.string r2],.bool ok]) ∧ Below W.heap.size W w'):=⟨fun W hW => find_Field.calls A0 c0 l0 A1 c1 l1 a2 a3 a4 s5 s6 r1 r2 ok W (Kd.C_below hr0 ((below_drew1 (Below.refl _ _)).trans hW)) hc0 (Kd.C_below hr1 ((below_drew1 (Below.refl _ _)).trans hW)) hc1 hf⟩
 have HM0 : Aside0 (MkOwn w.drew base g (.slice A0 l0.length c0) (.slice A1 l1.length c1) (.string a2) (.string a3) (.string a4) m pc (.int .i64 16) (.int .i64 ia) (.int .i64 ib) (.int .i64 ic) (.int .i64 id) (.string s5) (.string s6) (.string s7) (.slice A8 n8 c8) v l):=⟨hm.below (below_drew1 (Below.refl _ _)) hbz⟩
 have HXB : Aside0 (Below w.heap.size w w.drew):=⟨below_drew1 (Below.refl _ _)⟩
 have HBc : Aside0 (Below w.drew.heap.size w.drew w.drew):=⟨Below.refl _ _⟩
 have HBz:=aq hbz
 have HL:=aq hl
 have z0 : w.drew.cell? ⟨g,0,none⟩ = some (.slice A0 l0.length c0):=blk_cell HM0.out.b 0
 have z1 : w.drew.cell? ⟨g,1,none⟩ = some (.slice A1 l1.length c1):=blk_cell HM0.out.b 1
 have z2 : w.drew.cell? ⟨g,2,none⟩ = some (.string a2):=blk_cell HM0.out.b 2
 have z3 : w.drew.cell? ⟨g,3,none⟩ = some (.string a3):=blk_cell HM0.out.b 3
 have z4 : w.drew.cell? ⟨g,4,none⟩ = some (.string a4):=blk_cell HM0.out.b 4
 have z5 : w.drew.cell? ⟨g,14,none⟩ = some (.string s5):=blk_cell HM0.out.b 14
 have z6 : w.drew.cell? ⟨g,15,none⟩ = some (.string s6):=blk_cell HM0.out.b 15
 clear hm hl hbz hr0 hr1 hf
 go_enter Try.func72,Try.ntmps72
 go_wp2_with fail
 refine start_ (n:=22) (S:=fun w' => w'.cell? ⟨g,0,none⟩ = some (.slice A0 l0.length c0) ∧ w'.cell? ⟨g,1,none⟩ = some (.slice A1 l1.length c1) ∧ w'.cell? ⟨g,2,none⟩ = some (.string a2) ∧ w'.cell? ⟨g,3,none⟩ = some (.string a3) ∧ w'.cell? ⟨g,4,none⟩ = some (.string a4) ∧ w'.cell? ⟨g,14,none⟩ = some (.string s5) ∧ w'.cell? ⟨g,15,none⟩ = some (.string s6)) (ds:=[20]) (Array.replicate 22 false) (by kernel_rfl) rfl rfl ⟨z0,z1,z2,z3,z4,z5,z6⟩ (fun hHeld => ?_)
 generalize w.drew = X at HM0 HFD HBc HXB z0 z1 z2 z3 z4 z5 z6 hHeld ⊢
 refine sP (i:=0) (N:=some 5) ?_
 refine sP (i:=1) (N:=some 6) ?_
 refine sP (i:=2) (N:=some 7) ?_
 refine sP (i:=4) (N:=some 9) ?_
 refine sP (i:=5) (N:=some 10) ?_
 refine sP (i:=6) (N:=some 11) ?_
 refine sP (i:=7) (N:=some 12) ?_
 refine sP (i:=9) (N:=some 14) ?_
 refine sP (i:=10) (N:=some 15) ?_
 refine sP (i:=11) (N:=some 16) ?_
 refine sP (i:=12) (N:=some 17) ?_
 refine sT (i:=3) (N:=some 8) hHeld ?_
 refine sT (i:=8) (N:=some 13) hHeld ?_
 refine sT (i:=13) (N:=some 18) hHeld ?_
 refine sP (i:=14) (N:=some 19) ?_
 refine join_ (σ:=Nat) 2 #[true,true,true,true,true,true,true,true,true,true,true,true,true,true,true,true,true,true,true,true,false,false] (fun s => [(20,.tuple #[.agg #[.string r1,.string r2],.bool ok]),(4,.tuple #[.agg #[.string r1,.string r2],.bool ok]),(21,.agg #[.string r1,.string r2]),(22,.bool ok),(2,.pointer (some ⟨s,0,none⟩))]) (fun s w' => w'.heap[s]? = some (Obj.cells #[.string ⟨#[]⟩,.string ⟨#[]⟩] 44 (0,0)) ∧ Below X.heap.size X w' ∧ X.heap.size ≤ s) ?_ ?_
 rotate_left
 ·
  intro hCont
  refine sW (i:=15) (j:=19) (Ni:=some 20) (Nj:=some 2) (fun K hK => ?_) fun K hK => ?_
  ·
   skip
   refine sG Try.func90 #[.agg (pG A0 l0 c0 A1 l1 c1 a2 a3 a4),.agg #[.string s5,.string s6]] ?_
   refine (HFD.out X HBc.out).mono ?_
   rintro e w4 ⟨rfl,hb⟩
   refine ⟨_,rfl,?_⟩
   replace HBc:=aq (HBc.out.trans (hb.mono HBc.out.size))
   clear hb
   refine hK.out _ _ ⟨(sC HBc.out z0),(sC HBc.out z1),(sC HBc.out z2),(sC HBc.out z3),(sC HBc.out z4),(sC HBc.out z5),(sC HBc.out z6)⟩ (fun hHeld => ?_)
   clear hK K
   refine sN ?_
   refine sP (i:=16) (N:=some 4) ?_
   refine sP (i:=17) (N:=some 21) ?_
   refine sP (i:=18) (N:=some 22) ?_
   refine sO (i:=19) (N:=some 2) fun K hK => ?_
   refine value_ (w1:=?_) (v:=?_) (by rfl) rfl ?_ ?_
   rotate_left 2
   ·
    go_simp
    constructor
    ·
     rfl
    ·
     rfl
   have HG : Aside0 (X.heap.size ≤ w4.heap.size):=⟨HBc.out.size⟩
   have hb : Below w4.heap.size w4 (w4.alloc (Obj.cells #[.string ⟨#[]⟩,.string ⟨#[]⟩] 44)):=below_alloc (Below.refl _ _) _
   replace HBc:=aq (HBc.out.trans (hb.mono HBc.out.size))
   have HF:=aq (World.alloc_heap_new w4 (Obj.cells #[.string ⟨#[]⟩,.string ⟨#[]⟩] 44))
   clear hb
   refine hK.out _ _ ⟨(sC HBc.out z0),(sC HBc.out z1),(sC HBc.out z2),(sC HBc.out z3),(sC HBc.out z4),(sC HBc.out z5),(sC HBc.out z6)⟩ (fun hHeld => ?_)
   clear hK K
   refine sN ?_
   exact norm_ (by simp only [putAll,Act.put,List.setIfInBounds_toArray,List.set_cons_zero,List.set_cons_succ]) (hCont w4.heap.size _ ⟨HF.out,HBc.out,HG.out⟩)
  ·
   skip
   refine value_ (w1:=?_) (v:=?_) (by rfl) rfl ?_ ?_
   rotate_left 2
   ·
    go_simp
    constructor
    ·
     rfl
    ·
     rfl
   have HG : Aside0 (X.heap.size ≤ X.heap.size):=⟨HBc.out.size⟩
   have hb : Below X.heap.size X (X.alloc (Obj.cells #[.string ⟨#[]⟩,.string ⟨#[]⟩] 44)):=below_alloc (Below.refl _ _) _
   replace HBc:=aq (HBc.out.trans (hb.mono HBc.out.size))
   have HF:=aq (World.alloc_heap_new X (Obj.cells #[.string ⟨#[]⟩,.string ⟨#[]⟩] 44))
   clear hb
   refine hK.out _ _ ⟨(sC HBc.out z0),(sC HBc.out z1),(sC HBc.out z2),(sC HBc.out z3),(sC HBc.out z4),(sC HBc.out z5),(sC HBc.out z6)⟩ (fun hHeld => ?_)
   clear hK K
   refine sN ?_
   refine sO (i:=15) (N:=some 20) fun K hK => ?_
   refine sG Try.func90 #[.agg (pG A0 l0 c0 A1 l1 c1 a2 a3 a4),.agg #[.string s5,.string s6]] ?_
   refine (HFD.out (X.alloc (Obj.cells #[.string ⟨#[]⟩,.string ⟨#[]⟩] 44)) HBc.out).mono ?_
   rintro e w4 ⟨rfl,hb⟩
   refine ⟨_,rfl,?_⟩
   replace HF:=aq (blk_below HF.out hb)
   replace HBc:=aq (HBc.out.trans (hb.mono HBc.out.size))
   clear hb
   refine hK.out _ _ ⟨(sC HBc.out z0),(sC HBc.out z1),(sC HBc.out z2),(sC HBc.out z3),(sC HBc.out z4),(sC HBc.out z5),(sC HBc.out z6)⟩ (fun hHeld => ?_)
   clear hK K
   refine sN ?_
   refine sP (i:=16) (N:=some 4) ?_
   refine sP (i:=17) (N:=some 21) ?_
   refine sP (i:=18) (N:=some 22) ?_
   exact norm_ (by simp only [putAll,Act.put,List.setIfInBounds_toArray,List.set_cons_zero,List.set_cons_succ]) (hCont X.heap.size _ ⟨HF.out,HBc.out,HG.out⟩)
 rintro n w7 ⟨hf,hb,hg⟩
 replace HBc:=aq hb
 have hHeld : w7.cell? ⟨g,0,none⟩ = some (.slice A0 l0.length c0) ∧ w7.cell? ⟨g,1,none⟩ = some (.slice A1 l1.length c1) ∧ w7.cell? ⟨g,2,none⟩ = some (.string a2) ∧ w7.cell? ⟨g,3,none⟩ = some (.string a3) ∧ w7.cell? ⟨g,4,none⟩ = some (.string a4) ∧ w7.cell? ⟨g,14,none⟩ = some (.string s5) ∧ w7.cell? ⟨g,15,none⟩ = some (.string s6):=⟨(sC HBc.out z0),(sC HBc.out z1),(sC HBc.out z2),(sC HBc.out z3),(sC HBc.out z4),(sC HBc.out z5),(sC HBc.out z6)⟩
 have HF:=aq hf
 have HG:=aq hg
 clear hf hb hg
 obtain ⟨e0,e1⟩:=cells2f HF.out
 have ef:=blk_frozen HF.out
 refine norm_ (a':=?_) ?_ ?_
 rotate_left
 ·
  simp only [putAll,Act.put,List.setIfInBounds_toArray,List.set_cons_zero,List.set_cons_succ]
  rfl
 refine sX (i:=20) (N:=none) fun K hK => ?_
 refine skip_ (w1:=?_) (by rfl) rfl ?_ ?_
 rotate_left
 ·
  go_simp
  rfl
 have hz8:=set2_own HF.out (.string r1) (.string r2)
 have hb8:=(HBc.out.setCell (p:=⟨n,0,none⟩) HG.out (.string r1)).setCell (p:=⟨n,1,none⟩) HG.out (.string r2)
 generalize ((w7.setCell ⟨n,0,none⟩ (.string r1)).setCell ⟨n,1,none⟩ (.string r2)) = w8 at hz8 hb8 ⊢
 have HZ8:=aq hz8
 have HB8:=aq hb8
 clear hz8 hb8 e0 e1 ef
 refine hK.out _ _ ?_
 clear hK K
 refine sP (i:=21) (N:=some 3) ?_
 refine done_ (by kernel_rfl) ?_
 have HS8 : Aside0 (IvS w w8 base g (.slice A0 l0.length c0) (.slice A1 l1.length c1) (.string a2) (.string a3) (.string a4) m pc (.int .i64 16) (.int .i64 ia) (.int .i64 ib) (.int .i64 ic) (.int .i64 id) (.string s5) (.string s6) (.string s7) (.slice A8 n8 c8) v v l n #[.string r1,.string r2] 44):=⟨IvS.inner HM0.out HXB.out HBz.out HB8.out HZ8.out HG.out⟩
 clear hHeld z0 z1 z2 z3 z4 z5 z6 HM0 HBc HXB HF HB8 HZ8 HG HFD
 cases ok
 ·
  go_wp2_with fail
  exact bodyPost_ret (v:=.tuple #[]) (by simp [results,Try.results72,go_sem]) rfl (by first|exact ⟨_,[],rfl,(by rw [List.append_nil];exact HS8.out.hm),Nat.le_of_ble_eq_true rfl,asked_nil,HS8.out.hB,HS8.out.hK⟩|exact ⟨rfl,_,[],(by rw [List.append_nil];exact HS8.out.hm),Nat.le_of_ble_eq_true rfl,asked_nil,HS8.out.hB,HS8.out.hK⟩)
 have k9 : w8.cell? ⟨g,9,none⟩ = some (.int .i64 16):=blk_cell HS8.out.hm.b 9
 go_wp2_with fail
 clear k9
 have HS : Aside0 (IvS w w8.drew base g (.slice A0 l0.length c0) (.slice A1 l1.length c1) (.string a2) (.string a3) (.string a4) m pc (.int .i64 16) (.int .i64 ia) (.int .i64 ib) (.int .i64 ic) (.int .i64 id) (.string s5) (.string s6) (.string s7) (.slice A8 n8 c8) v v l n #[.string r1,.string r2] 44):=⟨HS8.out.below (below_drew1 (Below.refl _ _))⟩
 have z0 : w8.drew.cell? ⟨g,11,none⟩ = some (.int .i64 ib):=blk_cell HS.out.hm.b 11
 have z1 : w8.drew.cell? ⟨g,12,none⟩ = some (.int .i64 ic):=blk_cell HS.out.hm.b 12
 have z2 : w8.drew.cell? ⟨n,0,none⟩ = some (.string r1):=blk_cell HS.out.hz 0
 have z3 : w8.drew.cell? ⟨n,1,none⟩ = some (.string r2):=blk_cell HS.out.hz 1
 go_wp2_with fail
 refine start_ (n:=18) (S:=fun w' => w'.cell? ⟨g,11,none⟩ = some (.int .i64 ib) ∧ w'.cell? ⟨g,12,none⟩ = some (.int .i64 ic) ∧ w'.cell? ⟨n,0,none⟩ = some (.string r1) ∧ w'.cell? ⟨n,1,none⟩ = some (.string r2)) (ds:=[17]) (Array.replicate 18 false) (by kernel_rfl) rfl rfl ⟨z0,z1,z2,z3⟩ (fun hHeld => ?_)
 generalize w8.drew = X at HS z0 z1 z2 z3 hHeld ⊢
 refine sP (i:=0) (N:=some 56) ?_
 refine sP (i:=1) (N:=some 57) ?_
 refine sP (i:=2) (N:=some 58) ?_
 refine sP (i:=3) (N:=some 59) ?_
 refine sP (i:=4) (N:=some 60) ?_
 refine sP (i:=5) (N:=some 61) ?_
 refine sP (i:=8) (N:=some 64) ?_
 refine sP (i:=9) (N:=some 65) ?_
 refine sP (i:=10) (N:=some 66) ?_
 refine sP (i:=11) (N:=some 67) ?_
 refine sP (i:=12) (N:=some 68) ?_
 refine sT (i:=6) (N:=some 62) hHeld ?_
 refine sT (i:=13) (N:=some 69) hHeld ?_
 refine sT (i:=15) (N:=some 71) hHeld ?_
 refine sO (i:=7) (N:=some 63) fun K hK => ?_
 refine sG Try.func38 #[.pointer (some ⟨g,0,none⟩),.int .i64 ib] ?_
 refine (maker_reg g (.slice A0 l0.length c0) (.slice A1 l1.length c1) (.string a2) (.string a3) (.string a4) m pc (.int .i64 16) (.int .i64 ia) (.int .i64 ib) (.int .i64 ic) (.int .i64 id) (.string s5) (.string s6) (.string s7) (.slice A8 n8 c8) v ib X HS.out.hm.b).mono ?_
 rintro e w1 ⟨rfl,hb⟩
 refine ⟨_,rfl,?_⟩
 have y0:=sC hb z0
 have y1:=sC hb z1
 have y2:=sC hb z2
 have y3:=sC hb z3
 have HT1:=aq (HS.out.below hb)
 clear hb
 refine hK.out _ _ ⟨y0,y1,y2,y3⟩ (fun hHeld => ?_)
 clear hK K
 refine sN ?_
 refine sO (i:=14) (N:=some 70) fun K hK => ?_
 refine sG Try.func38 #[.pointer (some ⟨g,0,none⟩),.int .i64 ic] ?_
 refine (maker_reg g (.slice A0 l0.length c0) (.slice A1 l1.length c1) (.string a2) (.string a3) (.string a4) m pc (.int .i64 16) (.int .i64 ia) (.int .i64 ib) (.int .i64 ic) (.int .i64 id) (.string s5) (.string s6) (.string s7) (.slice A8 n8 c8) v ic w1 HT1.out.hm.b).mono ?_
 rintro e w2 ⟨rfl,hb⟩
 refine ⟨_,rfl,?_⟩
 have x0:=sC hb y0
 have x1:=sC hb y1
 have x2:=sC hb y2
 have x3:=sC hb y3
 have HT2:=aq (HT1.out.below hb)
 clear hb
 refine hK.out _ _ ⟨x0,x1,x2,x3⟩ (fun hHeld => ?_)
 clear hK K
 refine sN ?_
 refine sP (i:=16) (N:=some 72) ?_
 refine sX (i:=17) (N:=some 73) fun K hK => ?_
 refine sG Try.func61 #[.pointer (some ⟨g,0,none⟩),.agg (List.toArray ((kK 4 0 (qR 1 m ib (qR 1 m ic (sZ (fS r1 r2 (kS ⟨#[]⟩ (mZ [.slice none 0 0])))))))))] ?_
 refine (put_plain base g (.slice A0 l0.length c0) (.slice A1 l1.length c1) (.string a2) (.string a3) (.string a4) m pc (.int .i64 16) (.int .i64 ia) (.int .i64 ib) (.int .i64 ic) (.int .i64 id) (.string s5) (.string s6) (.string s7) (.slice A8 n8 c8) v l (⟨4,0,(⟨1,m,ib,z44,z46⟩ : S50),(⟨1,m,ic,z44,z46⟩ : S50),⟨z25,0,⟨#[]⟩⟩,(⟨r1,r2⟩ : S44),⟨#[]⟩,z25,noSl⟩ : CV) w2 HT2.out.hm (show (4 : Int) ≠ 1 by decide) (by have:=HL.out;(try simp only [List.length_append,List.length_cons,List.length_nil]);omega) HT2.out.hs).mono ?_
 rintro e w3 ⟨v3,rfl,hm3,hb3,hk3⟩
 refine ⟨_,rfl,?_⟩
 have HS3:=aq (HT2.out.put hm3 hb3 hk3)
 clear hm3 hb3 hk3
 refine hK.out _ _ ?_
 clear hK K
 refine sN ?_
 refine done_ (by kernel_rfl) ?_
 go_wp2_with fail
 try simp only [List.append_assoc,List.cons_append,List.nil_append] at HS3
 exact bodyPost_end (v:=.tuple #[]) (by simp [results,Try.results72,go_sem]) rfl (by first|exact ⟨_,[(⟨4,pc,(⟨1,m,ib,z44,z46⟩ : S50),(⟨1,m,ic,z44,z46⟩ : S50),⟨m,0,⟨#[]⟩⟩,(⟨r1,r2⟩ : S44),⟨#[]⟩,z25,noSl⟩ : CV)],rfl,HS3.out.hm,Nat.le_of_ble_eq_true rfl,(asked_cons rfl rfl (fun _ => ⟨rfl,by simp [usesR]⟩) (fun _ => ⟨rfl,by simp [usesR]⟩) asked_nil),HS3.out.hB,HS3.out.hK⟩|exact ⟨rfl,_,[(⟨4,pc,(⟨1,m,ib,z44,z46⟩ : S50),(⟨1,m,ic,z44,z46⟩ : S50),⟨m,0,⟨#[]⟩⟩,(⟨r1,r2⟩ : S44),⟨#[]⟩,z25,noSl⟩ : CV)],HS3.out.hm,Nat.le_of_ble_eq_true rfl,(asked_cons rfl rfl (fun _ => ⟨rfl,by simp [usesR]⟩) (fun _ => ⟨rfl,by simp [usesR]⟩) asked_nil),HS3.out.hB,HS3.out.hK⟩)
theorem mk_field17 (base g : Nat) (A0 : Option Addr) (c0 : Nat) (l0 : List S33) (A1 : Option Addr) (c1 : Nat) (l1 : List ByteArray) (a2 a3 a4 : ByteArray) (m : S25) (pc : Int) (ia ib ic id : Int) (s5 s6 s7 : ByteArray) (A8 : Option Addr) (n8 c8 : Nat) (ags : List Int) (v : Value) (l : List CV) (w : World) (hm : MkOwn w base g (.slice A0 l0.length c0) (.slice A1 l1.length c1) (.string a2) (.string a3) (.string a4) m pc (.int .i64 17) (.int .i64 ia) (.int .i64 ib) (.int .i64 ic) (.int .i64 id) (.string s5) (.string s6) (.string s7) (.slice A8 n8 c8) v l) (hl : l.length + 2 ≤ 1048576) (hbz : base ≤ w.heap.size) (hr0 : Kd.C k33 w A0 l0.length l0) (hc0 : l0.length ≤ c0) (hr1 : Kd.C Kd.string w A1 l1.length l1) (hc1 : l1.length ≤ c1) (r1 r2 : ByteArray) (ok : Bool) (hf : find_Field.f l0 l1 a2 a3 a4 s5 s6 = some (r1, r2, ok)) :
  Calls Try.prog 72 #[.pointer (some ⟨g,0,none⟩)] w fun e w' => ∃ v' ins,e = .returned (.tuple #[]) ∧ MkOwn w' base g (.slice A0 l0.length c0) (.slice A1 l1.length c1) (.string a2) (.string a3) (.string a4) m pc (.int .i64 17) (.int .i64 ia) (.int .i64 ib) (.int .i64 ic) (.int .i64 id) (.string s5) (.string s6) (.string s7) (.slice A8 n8 c8) v' (l ++ ins) ∧ ins.length ≤ 3 ∧ Asked m pc (⟨17,ia,ib,ic,id,s5,s6,s7,ags⟩ : S74) ins ok ∧ Below base w w' ∧ Kp w w' g v v':=by
 have HFD : Aside0 (∀ W,Below w.drew.heap.size w.drew W → Calls Try.prog 90 #[.agg (pG A0 l0 c0 A1 l1 c1 a2 a3 a4),.agg #[.string s5,.string s6]] W fun e w' => e = .returned (.tuple #[.agg #[.string r1,.string r2],.bool ok]) ∧ Below W.heap.size W w'):=⟨fun W hW => find_Field.calls A0 c0 l0 A1 c1 l1 a2 a3 a4 s5 s6 r1 r2 ok W (Kd.C_below hr0 ((below_drew1 (Below.refl _ _)).trans hW)) hc0 (Kd.C_below hr1 ((below_drew1 (Below.refl _ _)).trans hW)) hc1 hf⟩
 have HM0 : Aside0 (MkOwn w.drew base g (.slice A0 l0.length c0) (.slice A1 l1.length c1) (.string a2) (.string a3) (.string a4) m pc (.int .i64 17) (.int .i64 ia) (.int .i64 ib) (.int .i64 ic) (.int .i64 id) (.string s5) (.string s6) (.string s7) (.slice A8 n8 c8) v l):=⟨hm.below (below_drew1 (Below.refl _ _)) hbz⟩
 have HXB : Aside0 (Below w.heap.size w w.drew):=⟨below_drew1 (Below.refl _ _)⟩
 have HBc : Aside0 (Below w.drew.heap.size w.drew w.drew):=⟨Below.refl _ _⟩
 have HBz:=aq hbz
 have HL:=aq hl
 have z0 : w.drew.cell? ⟨g,0,none⟩ = some (.slice A0 l0.length c0):=blk_cell HM0.out.b 0
 have z1 : w.drew.cell? ⟨g,1,none⟩ = some (.slice A1 l1.length c1):=blk_cell HM0.out.b 1
 have z2 : w.drew.cell? ⟨g,2,none⟩ = some (.string a2):=blk_cell HM0.out.b 2
 have z3 : w.drew.cell? ⟨g,3,none⟩ = some (.string a3):=blk_cell HM0.out.b 3
 have z4 : w.drew.cell? ⟨g,4,none⟩ = some (.string a4):=blk_cell HM0.out.b 4
 have z5 : w.drew.cell? ⟨g,14,none⟩ = some (.string s5):=blk_cell HM0.out.b 14
 have z6 : w.drew.cell? ⟨g,15,none⟩ = some (.string s6):=blk_cell HM0.out.b 15
 clear hm hl hbz hr0 hr1 hf
 go_enter Try.func72,Try.ntmps72
 go_wp2_with fail
 refine start_ (n:=22) (S:=fun w' => w'.cell? ⟨g,0,none⟩ = some (.slice A0 l0.length c0) ∧ w'.cell? ⟨g,1,none⟩ = some (.slice A1 l1.length c1) ∧ w'.cell? ⟨g,2,none⟩ = some (.string a2) ∧ w'.cell? ⟨g,3,none⟩ = some (.string a3) ∧ w'.cell? ⟨g,4,none⟩ = some (.string a4) ∧ w'.cell? ⟨g,14,none⟩ = some (.string s5) ∧ w'.cell? ⟨g,15,none⟩ = some (.string s6)) (ds:=[20]) (Array.replicate 22 false) (by kernel_rfl) rfl rfl ⟨z0,z1,z2,z3,z4,z5,z6⟩ (fun hHeld => ?_)
 generalize w.drew = X at HM0 HFD HBc HXB z0 z1 z2 z3 z4 z5 z6 hHeld ⊢
 refine sP (i:=0) (N:=some 5) ?_
 refine sP (i:=1) (N:=some 6) ?_
 refine sP (i:=2) (N:=some 7) ?_
 refine sP (i:=4) (N:=some 9) ?_
 refine sP (i:=5) (N:=some 10) ?_
 refine sP (i:=6) (N:=some 11) ?_
 refine sP (i:=7) (N:=some 12) ?_
 refine sP (i:=9) (N:=some 14) ?_
 refine sP (i:=10) (N:=some 15) ?_
 refine sP (i:=11) (N:=some 16) ?_
 refine sP (i:=12) (N:=some 17) ?_
 refine sT (i:=3) (N:=some 8) hHeld ?_
 refine sT (i:=8) (N:=some 13) hHeld ?_
 refine sT (i:=13) (N:=some 18) hHeld ?_
 refine sP (i:=14) (N:=some 19) ?_
 refine join_ (σ:=Nat) 2 #[true,true,true,true,true,true,true,true,true,true,true,true,true,true,true,true,true,true,true,true,false,false] (fun s => [(20,.tuple #[.agg #[.string r1,.string r2],.bool ok]),(4,.tuple #[.agg #[.string r1,.string r2],.bool ok]),(21,.agg #[.string r1,.string r2]),(22,.bool ok),(2,.pointer (some ⟨s,0,none⟩))]) (fun s w' => w'.heap[s]? = some (Obj.cells #[.string ⟨#[]⟩,.string ⟨#[]⟩] 44 (0,0)) ∧ Below X.heap.size X w' ∧ X.heap.size ≤ s) ?_ ?_
 rotate_left
 ·
  intro hCont
  refine sW (i:=15) (j:=19) (Ni:=some 20) (Nj:=some 2) (fun K hK => ?_) fun K hK => ?_
  ·
   skip
   refine sG Try.func90 #[.agg (pG A0 l0 c0 A1 l1 c1 a2 a3 a4),.agg #[.string s5,.string s6]] ?_
   refine (HFD.out X HBc.out).mono ?_
   rintro e w4 ⟨rfl,hb⟩
   refine ⟨_,rfl,?_⟩
   replace HBc:=aq (HBc.out.trans (hb.mono HBc.out.size))
   clear hb
   refine hK.out _ _ ⟨(sC HBc.out z0),(sC HBc.out z1),(sC HBc.out z2),(sC HBc.out z3),(sC HBc.out z4),(sC HBc.out z5),(sC HBc.out z6)⟩ (fun hHeld => ?_)
   clear hK K
   refine sN ?_
   refine sP (i:=16) (N:=some 4) ?_
   refine sP (i:=17) (N:=some 21) ?_
   refine sP (i:=18) (N:=some 22) ?_
   refine sO (i:=19) (N:=some 2) fun K hK => ?_
   refine value_ (w1:=?_) (v:=?_) (by rfl) rfl ?_ ?_
   rotate_left 2
   ·
    go_simp
    constructor
    ·
     rfl
    ·
     rfl
   have HG : Aside0 (X.heap.size ≤ w4.heap.size):=⟨HBc.out.size⟩
   have hb : Below w4.heap.size w4 (w4.alloc (Obj.cells #[.string ⟨#[]⟩,.string ⟨#[]⟩] 44)):=below_alloc (Below.refl _ _) _
   replace HBc:=aq (HBc.out.trans (hb.mono HBc.out.size))
   have HF:=aq (World.alloc_heap_new w4 (Obj.cells #[.string ⟨#[]⟩,.string ⟨#[]⟩] 44))
   clear hb
   refine hK.out _ _ ⟨(sC HBc.out z0),(sC HBc.out z1),(sC HBc.out z2),(sC HBc.out z3),(sC HBc.out z4),(sC HBc.out z5),(sC HBc.out z6)⟩ (fun hHeld => ?_)
   clear hK K
   refine sN ?_
   exact norm_ (by simp only [putAll,Act.put,List.setIfInBounds_toArray,List.set_cons_zero,List.set_cons_succ]) (hCont w4.heap.size _ ⟨HF.out,HBc.out,HG.out⟩)
  ·
   skip
   refine value_ (w1:=?_) (v:=?_) (by rfl) rfl ?_ ?_
   rotate_left 2
   ·
    go_simp
    constructor
    ·
     rfl
    ·
     rfl
   have HG : Aside0 (X.heap.size ≤ X.heap.size):=⟨HBc.out.size⟩
   have hb : Below X.heap.size X (X.alloc (Obj.cells #[.string ⟨#[]⟩,.string ⟨#[]⟩] 44)):=below_alloc (Below.refl _ _) _
   replace HBc:=aq (HBc.out.trans (hb.mono HBc.out.size))
   have HF:=aq (World.alloc_heap_new X (Obj.cells #[.string ⟨#[]⟩,.string ⟨#[]⟩] 44))
   clear hb
   refine hK.out _ _ ⟨(sC HBc.out z0),(sC HBc.out z1),(sC HBc.out z2),(sC HBc.out z3),(sC HBc.out z4),(sC HBc.out z5),(sC HBc.out z6)⟩ (fun hHeld => ?_)
   clear hK K
   refine sN ?_
   refine sO (i:=15) (N:=some 20) fun K hK => ?_
   refine sG Try.func90 #[.agg (pG A0 l0 c0 A1 l1 c1 a2 a3 a4),.agg #[.string s5,.string s6]] ?_
   refine (HFD.out (X.alloc (Obj.cells #[.string ⟨#[]⟩,.string ⟨#[]⟩] 44)) HBc.out).mono ?_
   rintro e w4 ⟨rfl,hb⟩
   refine ⟨_,rfl,?_⟩
   replace HF:=aq (blk_below HF.out hb)
   replace HBc:=aq (HBc.out.trans (hb.mono HBc.out.size))
   clear hb
   refine hK.out _ _ ⟨(sC HBc.out z0),(sC HBc.out z1),(sC HBc.out z2),(sC HBc.out z3),(sC HBc.out z4),(sC HBc.out z5),(sC HBc.out z6)⟩ (fun hHeld => ?_)
   clear hK K
   refine sN ?_
   refine sP (i:=16) (N:=some 4) ?_
   refine sP (i:=17) (N:=some 21) ?_
   refine sP (i:=18) (N:=some 22) ?_
   exact norm_ (by simp only [putAll,Act.put,List.setIfInBounds_toArray,List.set_cons_zero,List.set_cons_succ]) (hCont X.heap.size _ ⟨HF.out,HBc.out,HG.out⟩)
 rintro n w7 ⟨hf,hb,hg⟩
 replace HBc:=aq hb
 have hHeld : w7.cell? ⟨g,0,none⟩ = some (.slice A0 l0.length c0) ∧ w7.cell? ⟨g,1,none⟩ = some (.slice A1 l1.length c1) ∧ w7.cell? ⟨g,2,none⟩ = some (.string a2) ∧ w7.cell? ⟨g,3,none⟩ = some (.string a3) ∧ w7.cell? ⟨g,4,none⟩ = some (.string a4) ∧ w7.cell? ⟨g,14,none⟩ = some (.string s5) ∧ w7.cell? ⟨g,15,none⟩ = some (.string s6):=⟨(sC HBc.out z0),(sC HBc.out z1),(sC HBc.out z2),(sC HBc.out z3),(sC HBc.out z4),(sC HBc.out z5),(sC HBc.out z6)⟩
 have HF:=aq hf
 have HG:=aq hg
 clear hf hb hg
 obtain ⟨e0,e1⟩:=cells2f HF.out
 have ef:=blk_frozen HF.out
 refine norm_ (a':=?_) ?_ ?_
 rotate_left
 ·
  simp only [putAll,Act.put,List.setIfInBounds_toArray,List.set_cons_zero,List.set_cons_succ]
  rfl
 refine sX (i:=20) (N:=none) fun K hK => ?_
 refine skip_ (w1:=?_) (by rfl) rfl ?_ ?_
 rotate_left
 ·
  go_simp
  rfl
 have hz8:=set2_own HF.out (.string r1) (.string r2)
 have hb8:=(HBc.out.setCell (p:=⟨n,0,none⟩) HG.out (.string r1)).setCell (p:=⟨n,1,none⟩) HG.out (.string r2)
 generalize ((w7.setCell ⟨n,0,none⟩ (.string r1)).setCell ⟨n,1,none⟩ (.string r2)) = w8 at hz8 hb8 ⊢
 have HZ8:=aq hz8
 have HB8:=aq hb8
 clear hz8 hb8 e0 e1 ef
 refine hK.out _ _ ?_
 clear hK K
 refine sP (i:=21) (N:=some 3) ?_
 refine done_ (by kernel_rfl) ?_
 have HS8 : Aside0 (IvS w w8 base g (.slice A0 l0.length c0) (.slice A1 l1.length c1) (.string a2) (.string a3) (.string a4) m pc (.int .i64 17) (.int .i64 ia) (.int .i64 ib) (.int .i64 ic) (.int .i64 id) (.string s5) (.string s6) (.string s7) (.slice A8 n8 c8) v v l n #[.string r1,.string r2] 44):=⟨IvS.inner HM0.out HXB.out HBz.out HB8.out HZ8.out HG.out⟩
 clear hHeld z0 z1 z2 z3 z4 z5 z6 HM0 HBc HXB HF HB8 HZ8 HG HFD
 cases ok
 ·
  go_wp2_with fail
  exact bodyPost_ret (v:=.tuple #[]) (by simp [results,Try.results72,go_sem]) rfl (by first|exact ⟨_,[],rfl,(by rw [List.append_nil];exact HS8.out.hm),Nat.le_of_ble_eq_true rfl,asked_nil,HS8.out.hB,HS8.out.hK⟩|exact ⟨rfl,_,[],(by rw [List.append_nil];exact HS8.out.hm),Nat.le_of_ble_eq_true rfl,asked_nil,HS8.out.hB,HS8.out.hK⟩)
 have k9 : w8.cell? ⟨g,9,none⟩ = some (.int .i64 17):=blk_cell HS8.out.hm.b 9
 have f0 : w8.cell? ⟨n,0,none⟩ = some (.string r1):=blk_cell HS8.out.hz 0
 have f1 : w8.cell? ⟨n,1,none⟩ = some (.string r2):=blk_cell HS8.out.hz 1
 go_wp2_with fail
 clear k9
 refine (maker_begins base g (.slice A0 l0.length c0) (.slice A1 l1.length c1) (.string a2) (.string a3) (.string a4) m pc (.int .i64 17) (.int .i64 ia) (.int .i64 ib) (.int .i64 ic) (.int .i64 id) (.string s5) (.string s6) (.string s7) (.slice A8 n8 c8) v (l) r1 w8 HS8.out.hm (by have:=HL.out;(try simp only [List.length_append,List.length_cons,List.length_nil]);omega) HS8.out.hs).mono ?_
 rintro e w9 ⟨v1,rfl,hm,hb,hk⟩
 have HS9:=aq (HS8.out.put hm hb hk)
 clear hm hb hk
 clear f0 f1
 have f0 : w9.cell? ⟨n,0,none⟩ = some (.string r1):=blk_cell HS9.out.hz 0
 have f1 : w9.cell? ⟨n,1,none⟩ = some (.string r2):=blk_cell HS9.out.hz 1
 go_wp2_with fail
 refine (put_plain base g (.slice A0 l0.length c0) (.slice A1 l1.length c1) (.string a2) (.string a3) (.string a4) m pc (.int .i64 17) (.int .i64 ia) (.int .i64 ib) (.int .i64 ic) (.int .i64 id) (.string s5) (.string s6) (.string s7) (.slice A8 n8 c8) v1 (l ++ [(⟨7,pc,z50,z50,⟨m,0,⟨#[]⟩⟩,z44,r1,z25,noSl⟩ : CV)]) (⟨8,0,z50,z50,⟨z25,0,⟨#[]⟩⟩,(⟨r1,r2⟩ : S44),⟨#[]⟩,z25,noSl⟩ : CV) w9 HS9.out.hm (show (8 : Int) ≠ 1 by decide) (by have:=HL.out;(try simp only [List.length_append,List.length_cons,List.length_nil]);omega) HS9.out.hs).mono ?_
 rintro e w10 ⟨v2,rfl,hm,hb,hk⟩
 have HS10:=aq (HS9.out.put hm hb hk)
 clear hm hb hk
 clear f0 f1
 have HS : Aside0 (IvS w w10.drew base g (.slice A0 l0.length c0) (.slice A1 l1.length c1) (.string a2) (.string a3) (.string a4) m pc (.int .i64 17) (.int .i64 ia) (.int .i64 ib) (.int .i64 ic) (.int .i64 id) (.string s5) (.string s6) (.string s7) (.slice A8 n8 c8) v v2 (l ++ [(⟨7,pc,z50,z50,⟨m,0,⟨#[]⟩⟩,z44,r1,z25,noSl⟩ : CV)] ++ [(⟨8,pc,z50,z50,⟨m,0,⟨#[]⟩⟩,(⟨r1,r2⟩ : S44),⟨#[]⟩,z25,noSl⟩ : CV)]) n #[.string r1,.string r2] 44):=⟨HS10.out.below (below_drew1 (Below.refl _ _))⟩
 have z0 : w10.drew.cell? ⟨g,10,none⟩ = some (.int .i64 ia):=blk_cell HS.out.hm.b 10
 have z1 : w10.drew.cell? ⟨n,0,none⟩ = some (.string r1):=blk_cell HS.out.hz 0
 have z2 : w10.drew.cell? ⟨n,1,none⟩ = some (.string r2):=blk_cell HS.out.hz 1
 go_wp2_with fail
 refine start_ (n:=11) (S:=fun w' => w'.cell? ⟨g,10,none⟩ = some (.int .i64 ia) ∧ w'.cell? ⟨n,0,none⟩ = some (.string r1) ∧ w'.cell? ⟨n,1,none⟩ = some (.string r2)) (ds:=[10]) (Array.replicate 11 false) (by kernel_rfl) rfl rfl ⟨z0,z1,z2⟩ (fun hHeld => ?_)
 generalize w10.drew = X at HS z0 z1 z2 hHeld ⊢
 refine sP (i:=0) (N:=some 84) ?_
 refine sP (i:=1) (N:=some 85) ?_
 refine sP (i:=2) (N:=some 86) ?_
 refine sP (i:=3) (N:=some 87) ?_
 refine sP (i:=4) (N:=some 88) ?_
 refine sP (i:=5) (N:=some 89) ?_
 refine sT (i:=6) (N:=some 90) hHeld ?_
 refine sT (i:=8) (N:=some 92) hHeld ?_
 refine sO (i:=7) (N:=some 91) fun K hK => ?_
 refine sG Try.func38 #[.pointer (some ⟨g,0,none⟩),.int .i64 ia] ?_
 refine (maker_reg g (.slice A0 l0.length c0) (.slice A1 l1.length c1) (.string a2) (.string a3) (.string a4) m pc (.int .i64 17) (.int .i64 ia) (.int .i64 ib) (.int .i64 ic) (.int .i64 id) (.string s5) (.string s6) (.string s7) (.slice A8 n8 c8) v2 ia X HS.out.hm.b).mono ?_
 rintro e w1 ⟨rfl,hb⟩
 refine ⟨_,rfl,?_⟩
 have y0:=sC hb z0
 have y1:=sC hb z1
 have y2:=sC hb z2
 have HT1:=aq (HS.out.below hb)
 clear hb
 refine hK.out _ _ ⟨y0,y1,y2⟩ (fun hHeld => ?_)
 clear hK K
 refine sN ?_
 refine sO (i:=9) (N:=some 93) fun K hK => ?_
 refine sG Try.func17 #[.agg #[.string r1,.string r2]] ?_
 refine (Q43.gen_Static.calls r1 r2 3 ⟨#[]⟩ ⟨#[]⟩ ⟨#[]⟩ 0 r1 r2 ⟨#[]⟩ ⟨#[]⟩ ⟨#[]⟩ 0 ⟨#[]⟩ w1 rfl).mono ?_
 rintro e w2 ⟨rfl,hb⟩
 refine ⟨_,rfl,?_⟩
 have x0:=sC hb y0
 have x1:=sC hb y1
 have x2:=sC hb y2
 have HT2:=aq (HT1.out.below hb)
 clear hb
 refine hK.out _ _ ⟨x0,x1,x2⟩ (fun hHeld => ?_)
 clear hK K
 refine sN ?_
 refine sX (i:=10) (N:=some 94) fun K hK => ?_
 refine sG Try.func37 #[.pointer (some ⟨g,0,none⟩),.agg (List.toArray (qR 1 m ia [])),.agg #[.int .i64 3,.string ⟨#[]⟩,.string ⟨#[]⟩,.string ⟨#[]⟩,.int .i64 0,.string r1,.string r2,.string ⟨#[]⟩,.string ⟨#[]⟩,.string ⟨#[]⟩,.int .i64 0,.string ⟨#[]⟩],.string ⟨#[]⟩] ?_
 refine (maker_flows base g (.slice A0 l0.length c0) (.slice A1 l1.length c1) (.string a2) (.string a3) (.string a4) m pc (.int .i64 17) (.int .i64 ia) (.int .i64 ib) (.int .i64 ic) (.int .i64 id) (.string s5) (.string s6) (.string s7) (.slice A8 n8 c8) v2 (l ++ [(⟨7,pc,z50,z50,⟨m,0,⟨#[]⟩⟩,z44,r1,z25,noSl⟩ : CV)] ++ [(⟨8,pc,z50,z50,⟨m,0,⟨#[]⟩⟩,(⟨r1,r2⟩ : S44),⟨#[]⟩,z25,noSl⟩ : CV)]) (⟨1,m,ia,z44,z46⟩ : S50) (⟨3,z25,0,(⟨r1,r2⟩ : S44),z46⟩ : S50) ⟨#[]⟩ w2 HT2.out.hm (by have:=HL.out;(try simp only [List.length_append,List.length_cons,List.length_nil]);omega) HT2.out.hs).mono ?_
 rintro e w3 ⟨v3,rfl,hm3,hb3,hk3⟩
 refine ⟨_,rfl,?_⟩
 have HS3:=aq (HT2.out.put hm3 hb3 hk3)
 clear hm3 hb3 hk3
 refine hK.out _ _ ?_
 clear hK K
 refine sN ?_
 refine done_ (by kernel_rfl) ?_
 go_wp2_with fail
 try simp only [List.append_assoc,List.cons_append,List.nil_append] at HS3
 exact bodyPost_end (v:=.tuple #[]) (by simp [results,Try.results72,go_sem]) rfl (by first|exact ⟨_,[(⟨7,pc,z50,z50,⟨m,0,⟨#[]⟩⟩,z44,r1,z25,noSl⟩ : CV),(⟨8,pc,z50,z50,⟨m,0,⟨#[]⟩⟩,(⟨r1,r2⟩ : S44),⟨#[]⟩,z25,noSl⟩ : CV),(⟨2,pc,(⟨1,m,ia,z44,z46⟩ : S50),(⟨3,z25,0,(⟨r1,r2⟩ : S44),z46⟩ : S50),⟨m,0,⟨#[]⟩⟩,z44,⟨#[]⟩,z25,noSl⟩ : CV)],rfl,HS3.out.hm,Nat.le_of_ble_eq_true rfl,(asked_cons rfl rfl (fun h => absurd (show (0 : Int) = 1 from h) (by decide)) (fun h => absurd (show (0 : Int) = 1 from h) (by decide)) (asked_cons rfl rfl (fun h => absurd (show (0 : Int) = 1 from h) (by decide)) (fun h => absurd (show (0 : Int) = 1 from h) (by decide)) (asked_set rfl rfl rfl (by simp [usesR]) (fun h => absurd (show (3 : Int) = 1 from h) (by decide)) asked_nil))),HS3.out.hB,HS3.out.hK⟩|exact ⟨rfl,_,[(⟨7,pc,z50,z50,⟨m,0,⟨#[]⟩⟩,z44,r1,z25,noSl⟩ : CV),(⟨8,pc,z50,z50,⟨m,0,⟨#[]⟩⟩,(⟨r1,r2⟩ : S44),⟨#[]⟩,z25,noSl⟩ : CV),(⟨2,pc,(⟨1,m,ia,z44,z46⟩ : S50),(⟨3,z25,0,(⟨r1,r2⟩ : S44),z46⟩ : S50),⟨m,0,⟨#[]⟩⟩,z44,⟨#[]⟩,z25,noSl⟩ : CV)],HS3.out.hm,Nat.le_of_ble_eq_true rfl,(asked_cons rfl rfl (fun h => absurd (show (0 : Int) = 1 from h) (by decide)) (fun h => absurd (show (0 : Int) = 1 from h) (by decide)) (asked_cons rfl rfl (fun h => absurd (show (0 : Int) = 1 from h) (by decide)) (fun h => absurd (show (0 : Int) = 1 from h) (by decide)) (asked_set rfl rfl rfl (by simp [usesR]) (fun h => absurd (show (3 : Int) = 1 from h) (by decide)) asked_nil))),HS3.out.hB,HS3.out.hK⟩)
theorem mk_field18 (base g : Nat) (A0 : Option Addr) (c0 : Nat) (l0 : List S33) (A1 : Option Addr) (c1 : Nat) (l1 : List ByteArray) (a2 a3 a4 : ByteArray) (m : S25) (pc : Int) (ia ib ic id : Int) (s5 s6 s7 : ByteArray) (A8 : Option Addr) (n8 c8 : Nat) (ags : List Int) (v : Value) (l : List CV) (w : World) (hm : MkOwn w base g (.slice A0 l0.length c0) (.slice A1 l1.length c1) (.string a2) (.string a3) (.string a4) m pc (.int .i64 18) (.int .i64 ia) (.int .i64 ib) (.int .i64 ic) (.int .i64 id) (.string s5) (.string s6) (.string s7) (.slice A8 n8 c8) v l) (hl : l.length + 2 ≤ 1048576) (hbz : base ≤ w.heap.size) (hr0 : Kd.C k33 w A0 l0.length l0) (hc0 : l0.length ≤ c0) (hr1 : Kd.C Kd.string w A1 l1.length l1) (hc1 : l1.length ≤ c1) (r1 r2 : ByteArray) (ok : Bool) (hf : find_Field.f l0 l1 a2 a3 a4 s5 s6 = some (r1, r2, ok)) :
  Calls Try.prog 72 #[.pointer (some ⟨g,0,none⟩)] w fun e w' => ∃ v' ins,e = .returned (.tuple #[]) ∧ MkOwn w' base g (.slice A0 l0.length c0) (.slice A1 l1.length c1) (.string a2) (.string a3) (.string a4) m pc (.int .i64 18) (.int .i64 ia) (.int .i64 ib) (.int .i64 ic) (.int .i64 id) (.string s5) (.string s6) (.string s7) (.slice A8 n8 c8) v' (l ++ ins) ∧ ins.length ≤ 3 ∧ Asked m pc (⟨18,ia,ib,ic,id,s5,s6,s7,ags⟩ : S74) ins false ∧ Below base w w' ∧ Kp w w' g v v':=by
 have HFD : Aside0 (∀ W,Below w.drew.heap.size w.drew W → Calls Try.prog 90 #[.agg (pG A0 l0 c0 A1 l1 c1 a2 a3 a4),.agg #[.string s5,.string s6]] W fun e w' => e = .returned (.tuple #[.agg #[.string r1,.string r2],.bool ok]) ∧ Below W.heap.size W w'):=⟨fun W hW => find_Field.calls A0 c0 l0 A1 c1 l1 a2 a3 a4 s5 s6 r1 r2 ok W (Kd.C_below hr0 ((below_drew1 (Below.refl _ _)).trans hW)) hc0 (Kd.C_below hr1 ((below_drew1 (Below.refl _ _)).trans hW)) hc1 hf⟩
 have HM0 : Aside0 (MkOwn w.drew base g (.slice A0 l0.length c0) (.slice A1 l1.length c1) (.string a2) (.string a3) (.string a4) m pc (.int .i64 18) (.int .i64 ia) (.int .i64 ib) (.int .i64 ic) (.int .i64 id) (.string s5) (.string s6) (.string s7) (.slice A8 n8 c8) v l):=⟨hm.below (below_drew1 (Below.refl _ _)) hbz⟩
 have HXB : Aside0 (Below w.heap.size w w.drew):=⟨below_drew1 (Below.refl _ _)⟩
 have HBc : Aside0 (Below w.drew.heap.size w.drew w.drew):=⟨Below.refl _ _⟩
 have HBz:=aq hbz
 have HL:=aq hl
 have z0 : w.drew.cell? ⟨g,0,none⟩ = some (.slice A0 l0.length c0):=blk_cell HM0.out.b 0
 have z1 : w.drew.cell? ⟨g,1,none⟩ = some (.slice A1 l1.length c1):=blk_cell HM0.out.b 1
 have z2 : w.drew.cell? ⟨g,2,none⟩ = some (.string a2):=blk_cell HM0.out.b 2
 have z3 : w.drew.cell? ⟨g,3,none⟩ = some (.string a3):=blk_cell HM0.out.b 3
 have z4 : w.drew.cell? ⟨g,4,none⟩ = some (.string a4):=blk_cell HM0.out.b 4
 have z5 : w.drew.cell? ⟨g,14,none⟩ = some (.string s5):=blk_cell HM0.out.b 14
 have z6 : w.drew.cell? ⟨g,15,none⟩ = some (.string s6):=blk_cell HM0.out.b 15
 clear hm hl hbz hr0 hr1 hf
 go_enter Try.func72,Try.ntmps72
 go_wp2_with fail
 refine start_ (n:=22) (S:=fun w' => w'.cell? ⟨g,0,none⟩ = some (.slice A0 l0.length c0) ∧ w'.cell? ⟨g,1,none⟩ = some (.slice A1 l1.length c1) ∧ w'.cell? ⟨g,2,none⟩ = some (.string a2) ∧ w'.cell? ⟨g,3,none⟩ = some (.string a3) ∧ w'.cell? ⟨g,4,none⟩ = some (.string a4) ∧ w'.cell? ⟨g,14,none⟩ = some (.string s5) ∧ w'.cell? ⟨g,15,none⟩ = some (.string s6)) (ds:=[20]) (Array.replicate 22 false) (by kernel_rfl) rfl rfl ⟨z0,z1,z2,z3,z4,z5,z6⟩ (fun hHeld => ?_)
 generalize w.drew = X at HM0 HFD HBc HXB z0 z1 z2 z3 z4 z5 z6 hHeld ⊢
 refine sP (i:=0) (N:=some 5) ?_
 refine sP (i:=1) (N:=some 6) ?_
 refine sP (i:=2) (N:=some 7) ?_
 refine sP (i:=4) (N:=some 9) ?_
 refine sP (i:=5) (N:=some 10) ?_
 refine sP (i:=6) (N:=some 11) ?_
 refine sP (i:=7) (N:=some 12) ?_
 refine sP (i:=9) (N:=some 14) ?_
 refine sP (i:=10) (N:=some 15) ?_
 refine sP (i:=11) (N:=some 16) ?_
 refine sP (i:=12) (N:=some 17) ?_
 refine sT (i:=3) (N:=some 8) hHeld ?_
 refine sT (i:=8) (N:=some 13) hHeld ?_
 refine sT (i:=13) (N:=some 18) hHeld ?_
 refine sP (i:=14) (N:=some 19) ?_
 refine join_ (σ:=Nat) 2 #[true,true,true,true,true,true,true,true,true,true,true,true,true,true,true,true,true,true,true,true,false,false] (fun s => [(20,.tuple #[.agg #[.string r1,.string r2],.bool ok]),(4,.tuple #[.agg #[.string r1,.string r2],.bool ok]),(21,.agg #[.string r1,.string r2]),(22,.bool ok),(2,.pointer (some ⟨s,0,none⟩))]) (fun s w' => w'.heap[s]? = some (Obj.cells #[.string ⟨#[]⟩,.string ⟨#[]⟩] 44 (0,0)) ∧ Below X.heap.size X w' ∧ X.heap.size ≤ s) ?_ ?_
 rotate_left
 ·
  intro hCont
  refine sW (i:=15) (j:=19) (Ni:=some 20) (Nj:=some 2) (fun K hK => ?_) fun K hK => ?_
  ·
   skip
   refine sG Try.func90 #[.agg (pG A0 l0 c0 A1 l1 c1 a2 a3 a4),.agg #[.string s5,.string s6]] ?_
   refine (HFD.out X HBc.out).mono ?_
   rintro e w4 ⟨rfl,hb⟩
   refine ⟨_,rfl,?_⟩
   replace HBc:=aq (HBc.out.trans (hb.mono HBc.out.size))
   clear hb
   refine hK.out _ _ ⟨(sC HBc.out z0),(sC HBc.out z1),(sC HBc.out z2),(sC HBc.out z3),(sC HBc.out z4),(sC HBc.out z5),(sC HBc.out z6)⟩ (fun hHeld => ?_)
   clear hK K
   refine sN ?_
   refine sP (i:=16) (N:=some 4) ?_
   refine sP (i:=17) (N:=some 21) ?_
   refine sP (i:=18) (N:=some 22) ?_
   refine sO (i:=19) (N:=some 2) fun K hK => ?_
   refine value_ (w1:=?_) (v:=?_) (by rfl) rfl ?_ ?_
   rotate_left 2
   ·
    go_simp
    constructor
    ·
     rfl
    ·
     rfl
   have HG : Aside0 (X.heap.size ≤ w4.heap.size):=⟨HBc.out.size⟩
   have hb : Below w4.heap.size w4 (w4.alloc (Obj.cells #[.string ⟨#[]⟩,.string ⟨#[]⟩] 44)):=below_alloc (Below.refl _ _) _
   replace HBc:=aq (HBc.out.trans (hb.mono HBc.out.size))
   have HF:=aq (World.alloc_heap_new w4 (Obj.cells #[.string ⟨#[]⟩,.string ⟨#[]⟩] 44))
   clear hb
   refine hK.out _ _ ⟨(sC HBc.out z0),(sC HBc.out z1),(sC HBc.out z2),(sC HBc.out z3),(sC HBc.out z4),(sC HBc.out z5),(sC HBc.out z6)⟩ (fun hHeld => ?_)
   clear hK K
   refine sN ?_
   exact norm_ (by simp only [putAll,Act.put,List.setIfInBounds_toArray,List.set_cons_zero,List.set_cons_succ]) (hCont w4.heap.size _ ⟨HF.out,HBc.out,HG.out⟩)
  ·
   skip
   refine value_ (w1:=?_) (v:=?_) (by rfl) rfl ?_ ?_
   rotate_left 2
   ·
    go_simp
    constructor
    ·
     rfl
    ·
     rfl
   have HG : Aside0 (X.heap.size ≤ X.heap.size):=⟨HBc.out.size⟩
   have hb : Below X.heap.size X (X.alloc (Obj.cells #[.string ⟨#[]⟩,.string ⟨#[]⟩] 44)):=below_alloc (Below.refl _ _) _
   replace HBc:=aq (HBc.out.trans (hb.mono HBc.out.size))
   have HF:=aq (World.alloc_heap_new X (Obj.cells #[.string ⟨#[]⟩,.string ⟨#[]⟩] 44))
   clear hb
   refine hK.out _ _ ⟨(sC HBc.out z0),(sC HBc.out z1),(sC HBc.out z2),(sC HBc.out z3),(sC HBc.out z4),(sC HBc.out z5),(sC HBc.out z6)⟩ (fun hHeld => ?_)
   clear hK K
   refine sN ?_
   refine sO (i:=15) (N:=some 20) fun K hK => ?_
   refine sG Try.func90 #[.agg (pG A0 l0 c0 A1 l1 c1 a2 a3 a4),.agg #[.string s5,.string s6]] ?_
   refine (HFD.out (X.alloc (Obj.cells #[.string ⟨#[]⟩,.string ⟨#[]⟩] 44)) HBc.out).mono ?_
   rintro e w4 ⟨rfl,hb⟩
   refine ⟨_,rfl,?_⟩
   replace HF:=aq (blk_below HF.out hb)
   replace HBc:=aq (HBc.out.trans (hb.mono HBc.out.size))
   clear hb
   refine hK.out _ _ ⟨(sC HBc.out z0),(sC HBc.out z1),(sC HBc.out z2),(sC HBc.out z3),(sC HBc.out z4),(sC HBc.out z5),(sC HBc.out z6)⟩ (fun hHeld => ?_)
   clear hK K
   refine sN ?_
   refine sP (i:=16) (N:=some 4) ?_
   refine sP (i:=17) (N:=some 21) ?_
   refine sP (i:=18) (N:=some 22) ?_
   exact norm_ (by simp only [putAll,Act.put,List.setIfInBounds_toArray,List.set_cons_zero,List.set_cons_succ]) (hCont X.heap.size _ ⟨HF.out,HBc.out,HG.out⟩)
 rintro n w7 ⟨hf,hb,hg⟩
 replace HBc:=aq hb
 have hHeld : w7.cell? ⟨g,0,none⟩ = some (.slice A0 l0.length c0) ∧ w7.cell? ⟨g,1,none⟩ = some (.slice A1 l1.length c1) ∧ w7.cell? ⟨g,2,none⟩ = some (.string a2) ∧ w7.cell? ⟨g,3,none⟩ = some (.string a3) ∧ w7.cell? ⟨g,4,none⟩ = some (.string a4) ∧ w7.cell? ⟨g,14,none⟩ = some (.string s5) ∧ w7.cell? ⟨g,15,none⟩ = some (.string s6):=⟨(sC HBc.out z0),(sC HBc.out z1),(sC HBc.out z2),(sC HBc.out z3),(sC HBc.out z4),(sC HBc.out z5),(sC HBc.out z6)⟩
 have HF:=aq hf
 have HG:=aq hg
 clear hf hb hg
 obtain ⟨e0,e1⟩:=cells2f HF.out
 have ef:=blk_frozen HF.out
 refine norm_ (a':=?_) ?_ ?_
 rotate_left
 ·
  simp only [putAll,Act.put,List.setIfInBounds_toArray,List.set_cons_zero,List.set_cons_succ]
  rfl
 refine sX (i:=20) (N:=none) fun K hK => ?_
 refine skip_ (w1:=?_) (by rfl) rfl ?_ ?_
 rotate_left
 ·
  go_simp
  rfl
 have hz8:=set2_own HF.out (.string r1) (.string r2)
 have hb8:=(HBc.out.setCell (p:=⟨n,0,none⟩) HG.out (.string r1)).setCell (p:=⟨n,1,none⟩) HG.out (.string r2)
 generalize ((w7.setCell ⟨n,0,none⟩ (.string r1)).setCell ⟨n,1,none⟩ (.string r2)) = w8 at hz8 hb8 ⊢
 have HZ8:=aq hz8
 have HB8:=aq hb8
 clear hz8 hb8 e0 e1 ef
 refine hK.out _ _ ?_
 clear hK K
 refine sP (i:=21) (N:=some 3) ?_
 refine done_ (by kernel_rfl) ?_
 have HS8 : Aside0 (IvS w w8 base g (.slice A0 l0.length c0) (.slice A1 l1.length c1) (.string a2) (.string a3) (.string a4) m pc (.int .i64 18) (.int .i64 ia) (.int .i64 ib) (.int .i64 ic) (.int .i64 id) (.string s5) (.string s6) (.string s7) (.slice A8 n8 c8) v v l n #[.string r1,.string r2] 44):=⟨IvS.inner HM0.out HXB.out HBz.out HB8.out HZ8.out HG.out⟩
 clear hHeld z0 z1 z2 z3 z4 z5 z6 HM0 HBc HXB HF HB8 HZ8 HG HFD
 cases ok
 ·
  go_wp2_with fail
  exact bodyPost_ret (v:=.tuple #[]) (by simp [results,Try.results72,go_sem]) rfl (by first|exact ⟨_,[],rfl,(by rw [List.append_nil];exact HS8.out.hm),Nat.le_of_ble_eq_true rfl,asked_nil,HS8.out.hB,HS8.out.hK⟩|exact ⟨rfl,_,[],(by rw [List.append_nil];exact HS8.out.hm),Nat.le_of_ble_eq_true rfl,asked_nil,HS8.out.hB,HS8.out.hK⟩)
 have k9 : w8.cell? ⟨g,9,none⟩ = some (.int .i64 18):=blk_cell HS8.out.hm.b 9
 have f0 : w8.cell? ⟨n,0,none⟩ = some (.string r1):=blk_cell HS8.out.hz 0
 have f1 : w8.cell? ⟨n,1,none⟩ = some (.string r2):=blk_cell HS8.out.hz 1
 go_wp2_with fail
 clear k9
 refine (maker_begins base g (.slice A0 l0.length c0) (.slice A1 l1.length c1) (.string a2) (.string a3) (.string a4) m pc (.int .i64 18) (.int .i64 ia) (.int .i64 ib) (.int .i64 ic) (.int .i64 id) (.string s5) (.string s6) (.string s7) (.slice A8 n8 c8) v (l) r1 w8 HS8.out.hm (by have:=HL.out;(try simp only [List.length_append,List.length_cons,List.length_nil]);omega) HS8.out.hs).mono ?_
 rintro e w9 ⟨v1,rfl,hm,hb,hk⟩
 have HS9:=aq (HS8.out.put hm hb hk)
 clear hm hb hk
 clear f0 f1
 have HS : Aside0 (IvS w w9.drew base g (.slice A0 l0.length c0) (.slice A1 l1.length c1) (.string a2) (.string a3) (.string a4) m pc (.int .i64 18) (.int .i64 ia) (.int .i64 ib) (.int .i64 ic) (.int .i64 id) (.string s5) (.string s6) (.string s7) (.slice A8 n8 c8) v v1 (l ++ [(⟨7,pc,z50,z50,⟨m,0,⟨#[]⟩⟩,z44,r1,z25,noSl⟩ : CV)]) n #[.string r1,.string r2] 44):=⟨HS9.out.below (below_drew1 (Below.refl _ _))⟩
 have z0 : w9.drew.cell? ⟨g,12,none⟩ = some (.int .i64 ic):=blk_cell HS.out.hm.b 12
 have z1 : w9.drew.cell? ⟨n,0,none⟩ = some (.string r1):=blk_cell HS.out.hz 0
 have z2 : w9.drew.cell? ⟨n,1,none⟩ = some (.string r2):=blk_cell HS.out.hz 1
 go_wp2_with fail
 refine start_ (n:=11) (S:=fun w' => w'.cell? ⟨g,12,none⟩ = some (.int .i64 ic) ∧ w'.cell? ⟨n,0,none⟩ = some (.string r1) ∧ w'.cell? ⟨n,1,none⟩ = some (.string r2)) (ds:=[10]) (Array.replicate 11 false) (by kernel_rfl) rfl rfl ⟨z0,z1,z2⟩ (fun hHeld => ?_)
 generalize w9.drew = X at HS z0 z1 z2 hHeld ⊢
 refine sP (i:=0) (N:=some 101) ?_
 refine sP (i:=3) (N:=some 104) ?_
 refine sP (i:=4) (N:=some 105) ?_
 refine sP (i:=5) (N:=some 106) ?_
 refine sP (i:=6) (N:=some 107) ?_
 refine sP (i:=7) (N:=some 108) ?_
 refine sT (i:=1) (N:=some 102) hHeld ?_
 refine sT (i:=8) (N:=some 109) hHeld ?_
 refine sO (i:=2) (N:=some 103) fun K hK => ?_
 refine sG Try.func17 #[.agg #[.string r1,.string r2]] ?_
 refine (Q43.gen_Static.calls r1 r2 3 ⟨#[]⟩ ⟨#[]⟩ ⟨#[]⟩ 0 r1 r2 ⟨#[]⟩ ⟨#[]⟩ ⟨#[]⟩ 0 ⟨#[]⟩ X rfl).mono ?_
 rintro e w1 ⟨rfl,hb⟩
 refine ⟨_,rfl,?_⟩
 have y0:=sC hb z0
 have y1:=sC hb z1
 have y2:=sC hb z2
 have HT1:=aq (HS.out.below hb)
 clear hb
 refine hK.out _ _ ⟨y0,y1,y2⟩ (fun hHeld => ?_)
 clear hK K
 refine sN ?_
 refine sO (i:=9) (N:=some 110) fun K hK => ?_
 refine sG Try.func38 #[.pointer (some ⟨g,0,none⟩),.int .i64 ic] ?_
 refine (maker_reg g (.slice A0 l0.length c0) (.slice A1 l1.length c1) (.string a2) (.string a3) (.string a4) m pc (.int .i64 18) (.int .i64 ia) (.int .i64 ib) (.int .i64 ic) (.int .i64 id) (.string s5) (.string s6) (.string s7) (.slice A8 n8 c8) v1 ic w1 HT1.out.hm.b).mono ?_
 rintro e w2 ⟨rfl,hb⟩
 refine ⟨_,rfl,?_⟩
 have x0:=sC hb y0
 have x1:=sC hb y1
 have x2:=sC hb y2
 have HT2:=aq (HT1.out.below hb)
 clear hb
 refine hK.out _ _ ⟨x0,x1,x2⟩ (fun hHeld => ?_)
 clear hK K
 refine sN ?_
 refine sX (i:=10) (N:=some 111) fun K hK => ?_
 refine sG Try.func37 #[.pointer (some ⟨g,0,none⟩),.agg #[.int .i64 3,.string ⟨#[]⟩,.string ⟨#[]⟩,.string ⟨#[]⟩,.int .i64 0,.string r1,.string r2,.string ⟨#[]⟩,.string ⟨#[]⟩,.string ⟨#[]⟩,.int .i64 0,.string ⟨#[]⟩],.agg (List.toArray (qR 1 m ic [])),.string ⟨#[]⟩] ?_
 refine (maker_flows base g (.slice A0 l0.length c0) (.slice A1 l1.length c1) (.string a2) (.string a3) (.string a4) m pc (.int .i64 18) (.int .i64 ia) (.int .i64 ib) (.int .i64 ic) (.int .i64 id) (.string s5) (.string s6) (.string s7) (.slice A8 n8 c8) v1 (l ++ [(⟨7,pc,z50,z50,⟨m,0,⟨#[]⟩⟩,z44,r1,z25,noSl⟩ : CV)]) (⟨3,z25,0,(⟨r1,r2⟩ : S44),z46⟩ : S50) (⟨1,m,ic,z44,z46⟩ : S50) ⟨#[]⟩ w2 HT2.out.hm (by have:=HL.out;(try simp only [List.length_append,List.length_cons,List.length_nil]);omega) HT2.out.hs).mono ?_
 rintro e w3 ⟨v3,rfl,hm3,hb3,hk3⟩
 refine ⟨_,rfl,?_⟩
 have HS3:=aq (HT2.out.put hm3 hb3 hk3)
 clear hm3 hb3 hk3
 refine hK.out _ _ ?_
 clear hK K
 refine sN ?_
 refine done_ (by kernel_rfl) ?_
 go_wp2_with fail
 try simp only [List.append_assoc,List.cons_append,List.nil_append] at HS3
 exact bodyPost_end (v:=.tuple #[]) (by simp [results,Try.results72,go_sem]) rfl (by first|exact ⟨_,[(⟨7,pc,z50,z50,⟨m,0,⟨#[]⟩⟩,z44,r1,z25,noSl⟩ : CV),(⟨2,pc,(⟨3,z25,0,(⟨r1,r2⟩ : S44),z46⟩ : S50),(⟨1,m,ic,z44,z46⟩ : S50),⟨m,0,⟨#[]⟩⟩,z44,⟨#[]⟩,z25,noSl⟩ : CV)],rfl,HS3.out.hm,Nat.le_of_ble_eq_true rfl,(asked_cons rfl rfl (fun h => absurd (show (0 : Int) = 1 from h) (by decide)) (fun h => absurd (show (0 : Int) = 1 from h) (by decide)) (asked_cons rfl rfl (fun h => absurd (show (3 : Int) = 1 from h) (by decide)) (fun _ => ⟨rfl,by simp [usesR]⟩) asked_nil)),HS3.out.hB,HS3.out.hK⟩|exact ⟨rfl,_,[(⟨7,pc,z50,z50,⟨m,0,⟨#[]⟩⟩,z44,r1,z25,noSl⟩ : CV),(⟨2,pc,(⟨3,z25,0,(⟨r1,r2⟩ : S44),z46⟩ : S50),(⟨1,m,ic,z44,z46⟩ : S50),⟨m,0,⟨#[]⟩⟩,z44,⟨#[]⟩,z25,noSl⟩ : CV)],HS3.out.hm,Nat.le_of_ble_eq_true rfl,(asked_cons rfl rfl (fun h => absurd (show (0 : Int) = 1 from h) (by decide)) (fun h => absurd (show (0 : Int) = 1 from h) (by decide)) (asked_cons rfl rfl (fun h => absurd (show (3 : Int) = 1 from h) (by decide)) (fun _ => ⟨rfl,by simp [usesR]⟩) asked_nil)),HS3.out.hB,HS3.out.hK⟩)
theorem iv_field15 (base g : Nat) (A0 : Option Addr) (c0 : Nat) (l0 : List S33) (A1 : Option Addr) (c1 : Nat) (l1 : List ByteArray) (a2 a3 a4 : ByteArray) (m : S25) (pc : Int) (ia ib ic id : Int) (s5 s6 s7 : ByteArray) (A8 : Option Addr) (n8 c8 : Nat) (ags : List Int) (v : Value) (l : List CV) (w : World) (hm : MkOwn w base g (.slice A0 l0.length c0) (.slice A1 l1.length c1) (.string a2) (.string a3) (.string a4) m pc (.int .i64 15) (.int .i64 ia) (.int .i64 ib) (.int .i64 ic) (.int .i64 id) (.string s5) (.string s6) (.string s7) (.slice A8 n8 c8) v l) (hl : l.length + 2 ≤ 1048576) (hbz : base ≤ w.heap.size) (hr0 : Kd.C k33 w A0 l0.length l0) (hc0 : l0.length ≤ c0) (hr1 : Kd.C Kd.string w A1 l1.length l1) (hc1 : l1.length ≤ c1) (r1 r2 : ByteArray) (ok : Bool) (hf : find_Field.f l0 l1 a2 a3 a4 s5 s6 = some (r1, r2, ok)) :
  Calls Try.prog 46 #[.pointer (some ⟨g,0,none⟩)] w fun e w' => ∃ v' ins,e = .returned (.tuple #[]) ∧ MkOwn w' base g (.slice A0 l0.length c0) (.slice A1 l1.length c1) (.string a2) (.string a3) (.string a4) m pc (.int .i64 15) (.int .i64 ia) (.int .i64 ib) (.int .i64 ic) (.int .i64 id) (.string s5) (.string s6) (.string s7) (.slice A8 n8 c8) v' (l ++ ins) ∧ ins.length ≤ 3 ∧ Asked m pc (⟨15,ia,ib,ic,id,s5,s6,s7,ags⟩ : S74) ins ok ∧ Below base w w' ∧ Kp w w' g v v':=by
 have hab:=below_alloc (Below.refl w.heap.size w) (Obj.cells #[.int .i64 15,.int .i64 ia,.int .i64 ib,.int .i64 ic,.int .i64 id,.string s5,.string s6,.string s7,.slice A8 n8 c8] 74)
 have HC:=aq (fun (h : IvS w (w.alloc (Obj.cells #[.int .i64 15,.int .i64 ia,.int .i64 ib,.int .i64 ic,.int .i64 id,.string s5,.string s6,.string s7,.slice A8 n8 c8] 74)) base g (.slice A0 l0.length c0) (.slice A1 l1.length c1) (.string a2) (.string a3) (.string a4) m pc (.int .i64 15) (.int .i64 ia) (.int .i64 ib) (.int .i64 ic) (.int .i64 id) (.string s5) (.string s6) (.string s7) (.slice A8 n8 c8) v v l w.heap.size #[.int .i64 15,.int .i64 ia,.int .i64 ib,.int .i64 ic,.int .i64 id,.string s5,.string s6,.string s7,.slice A8 n8 c8] 74) => mk_field15 base g A0 c0 l0 A1 c1 l1 a2 a3 a4 m pc ia ib ic id s5 s6 s7 A8 n8 c8 ags v l (w.alloc (Obj.cells #[.int .i64 15,.int .i64 ia,.int .i64 ib,.int .i64 ic,.int .i64 id,.string s5,.string s6,.string s7,.slice A8 n8 c8] 74)) h.hm hl h.hs (Kd.C_below hr0 hab) hc0 (Kd.C_below hr1 hab) hc1 r1 r2 ok hf)
 clear hab
 have HS0:=aq (IvS.start hm hbz #[.int .i64 15,.int .i64 ia,.int .i64 ib,.int .i64 ic,.int .i64 id,.string s5,.string s6,.string s7,.slice A8 n8 c8] 74)
 have HL:=aq hl
 obtain ⟨e9,e10,e11,e12,e13,e14,e15,e16,e17⟩ : w.cell? ⟨g,9,none⟩ = some (.int .i64 15) ∧ w.cell? ⟨g,10,none⟩ = some (.int .i64 ia) ∧ w.cell? ⟨g,11,none⟩ = some (.int .i64 ib) ∧ w.cell? ⟨g,12,none⟩ = some (.int .i64 ic) ∧ w.cell? ⟨g,13,none⟩ = some (.int .i64 id) ∧ w.cell? ⟨g,14,none⟩ = some (.string s5) ∧ w.cell? ⟨g,15,none⟩ = some (.string s6) ∧ w.cell? ⟨g,16,none⟩ = some (.string s7) ∧ w.cell? ⟨g,17,none⟩ = some (.slice A8 n8 c8):=⟨blk_cell hm.b 9,blk_cell hm.b 10,blk_cell hm.b 11,blk_cell hm.b 12,blk_cell hm.b 13,blk_cell hm.b 14,blk_cell hm.b 15,blk_cell hm.b 16,blk_cell hm.b 17⟩
 clear hm hbz hl
 go_enter Try.func46,Try.ntmps46
 go_wp2_with fail
 clear e9 e10 e11 e12 e13 e14 e15 e16 e17
 refine (HC.out HS0.out).mono ?_
 rintro e w1 ⟨v1,ins,rfl,hm1,hln,hask,hb1,hk1⟩
 have HS1:=aq (HS0.out.put hm1 hb1 hk1)
 have HN:=aq hln
 have HK:=aq hask
 clear hm1 hln hask hb1 hk1
 go_wp2_with fail
 exact bodyPost_end (v:=.tuple #[]) (by simp [results,Try.results46,go_sem]) rfl (by first|exact ⟨_,ins,rfl,HS1.out.hm,HN.out,HK.out,HS1.out.hB,HS1.out.hK⟩|exact ⟨rfl,_,ins,HS1.out.hm,HN.out,HK.out,HS1.out.hB,HS1.out.hK⟩)
theorem iv_field16 (base g : Nat) (A0 : Option Addr) (c0 : Nat) (l0 : List S33) (A1 : Option Addr) (c1 : Nat) (l1 : List ByteArray) (a2 a3 a4 : ByteArray) (m : S25) (pc : Int) (ia ib ic id : Int) (s5 s6 s7 : ByteArray) (A8 : Option Addr) (n8 c8 : Nat) (ags : List Int) (v : Value) (l : List CV) (w : World) (hm : MkOwn w base g (.slice A0 l0.length c0) (.slice A1 l1.length c1) (.string a2) (.string a3) (.string a4) m pc (.int .i64 16) (.int .i64 ia) (.int .i64 ib) (.int .i64 ic) (.int .i64 id) (.string s5) (.string s6) (.string s7) (.slice A8 n8 c8) v l) (hl : l.length + 2 ≤ 1048576) (hbz : base ≤ w.heap.size) (hr0 : Kd.C k33 w A0 l0.length l0) (hc0 : l0.length ≤ c0) (hr1 : Kd.C Kd.string w A1 l1.length l1) (hc1 : l1.length ≤ c1) (r1 r2 : ByteArray) (ok : Bool) (hf : find_Field.f l0 l1 a2 a3 a4 s5 s6 = some (r1, r2, ok)) :
  Calls Try.prog 46 #[.pointer (some ⟨g,0,none⟩)] w fun e w' => ∃ v' ins,e = .returned (.tuple #[]) ∧ MkOwn w' base g (.slice A0 l0.length c0) (.slice A1 l1.length c1) (.string a2) (.string a3) (.string a4) m pc (.int .i64 16) (.int .i64 ia) (.int .i64 ib) (.int .i64 ic) (.int .i64 id) (.string s5) (.string s6) (.string s7) (.slice A8 n8 c8) v' (l ++ ins) ∧ ins.length ≤ 3 ∧ Asked m pc (⟨16,ia,ib,ic,id,s5,s6,s7,ags⟩ : S74) ins false ∧ Below base w w' ∧ Kp w w' g v v':=by
 have hab:=below_alloc (Below.refl w.heap.size w) (Obj.cells #[.int .i64 16,.int .i64 ia,.int .i64 ib,.int .i64 ic,.int .i64 id,.string s5,.string s6,.string s7,.slice A8 n8 c8] 74)
 have HC:=aq (fun (h : IvS w (w.alloc (Obj.cells #[.int .i64 16,.int .i64 ia,.int .i64 ib,.int .i64 ic,.int .i64 id,.string s5,.string s6,.string s7,.slice A8 n8 c8] 74)) base g (.slice A0 l0.length c0) (.slice A1 l1.length c1) (.string a2) (.string a3) (.string a4) m pc (.int .i64 16) (.int .i64 ia) (.int .i64 ib) (.int .i64 ic) (.int .i64 id) (.string s5) (.string s6) (.string s7) (.slice A8 n8 c8) v v l w.heap.size #[.int .i64 16,.int .i64 ia,.int .i64 ib,.int .i64 ic,.int .i64 id,.string s5,.string s6,.string s7,.slice A8 n8 c8] 74) => mk_field16 base g A0 c0 l0 A1 c1 l1 a2 a3 a4 m pc ia ib ic id s5 s6 s7 A8 n8 c8 ags v l (w.alloc (Obj.cells #[.int .i64 16,.int .i64 ia,.int .i64 ib,.int .i64 ic,.int .i64 id,.string s5,.string s6,.string s7,.slice A8 n8 c8] 74)) h.hm hl h.hs (Kd.C_below hr0 hab) hc0 (Kd.C_below hr1 hab) hc1 r1 r2 ok hf)
 clear hab
 have HS0:=aq (IvS.start hm hbz #[.int .i64 16,.int .i64 ia,.int .i64 ib,.int .i64 ic,.int .i64 id,.string s5,.string s6,.string s7,.slice A8 n8 c8] 74)
 have HL:=aq hl
 obtain ⟨e9,e10,e11,e12,e13,e14,e15,e16,e17⟩ : w.cell? ⟨g,9,none⟩ = some (.int .i64 16) ∧ w.cell? ⟨g,10,none⟩ = some (.int .i64 ia) ∧ w.cell? ⟨g,11,none⟩ = some (.int .i64 ib) ∧ w.cell? ⟨g,12,none⟩ = some (.int .i64 ic) ∧ w.cell? ⟨g,13,none⟩ = some (.int .i64 id) ∧ w.cell? ⟨g,14,none⟩ = some (.string s5) ∧ w.cell? ⟨g,15,none⟩ = some (.string s6) ∧ w.cell? ⟨g,16,none⟩ = some (.string s7) ∧ w.cell? ⟨g,17,none⟩ = some (.slice A8 n8 c8):=⟨blk_cell hm.b 9,blk_cell hm.b 10,blk_cell hm.b 11,blk_cell hm.b 12,blk_cell hm.b 13,blk_cell hm.b 14,blk_cell hm.b 15,blk_cell hm.b 16,blk_cell hm.b 17⟩
 clear hm hbz hl
 go_enter Try.func46,Try.ntmps46
 go_wp2_with fail
 clear e9 e10 e11 e12 e13 e14 e15 e16 e17
 refine (HC.out HS0.out).mono ?_
 rintro e w1 ⟨v1,ins,rfl,hm1,hln,hask,hb1,hk1⟩
 have HS1:=aq (HS0.out.put hm1 hb1 hk1)
 have HN:=aq hln
 have HK:=aq hask
 clear hm1 hln hask hb1 hk1
 go_wp2_with fail
 exact bodyPost_end (v:=.tuple #[]) (by simp [results,Try.results46,go_sem]) rfl (by first|exact ⟨_,ins,rfl,HS1.out.hm,HN.out,HK.out,HS1.out.hB,HS1.out.hK⟩|exact ⟨rfl,_,ins,HS1.out.hm,HN.out,HK.out,HS1.out.hB,HS1.out.hK⟩)
theorem iv_field17 (base g : Nat) (A0 : Option Addr) (c0 : Nat) (l0 : List S33) (A1 : Option Addr) (c1 : Nat) (l1 : List ByteArray) (a2 a3 a4 : ByteArray) (m : S25) (pc : Int) (ia ib ic id : Int) (s5 s6 s7 : ByteArray) (A8 : Option Addr) (n8 c8 : Nat) (ags : List Int) (v : Value) (l : List CV) (w : World) (hm : MkOwn w base g (.slice A0 l0.length c0) (.slice A1 l1.length c1) (.string a2) (.string a3) (.string a4) m pc (.int .i64 17) (.int .i64 ia) (.int .i64 ib) (.int .i64 ic) (.int .i64 id) (.string s5) (.string s6) (.string s7) (.slice A8 n8 c8) v l) (hl : l.length + 2 ≤ 1048576) (hbz : base ≤ w.heap.size) (hr0 : Kd.C k33 w A0 l0.length l0) (hc0 : l0.length ≤ c0) (hr1 : Kd.C Kd.string w A1 l1.length l1) (hc1 : l1.length ≤ c1) (r1 r2 : ByteArray) (ok : Bool) (hf : find_Field.f l0 l1 a2 a3 a4 s5 s6 = some (r1, r2, ok)) :
  Calls Try.prog 46 #[.pointer (some ⟨g,0,none⟩)] w fun e w' => ∃ v' ins,e = .returned (.tuple #[]) ∧ MkOwn w' base g (.slice A0 l0.length c0) (.slice A1 l1.length c1) (.string a2) (.string a3) (.string a4) m pc (.int .i64 17) (.int .i64 ia) (.int .i64 ib) (.int .i64 ic) (.int .i64 id) (.string s5) (.string s6) (.string s7) (.slice A8 n8 c8) v' (l ++ ins) ∧ ins.length ≤ 3 ∧ Asked m pc (⟨17,ia,ib,ic,id,s5,s6,s7,ags⟩ : S74) ins ok ∧ Below base w w' ∧ Kp w w' g v v':=by
 have hab:=below_alloc (Below.refl w.heap.size w) (Obj.cells #[.int .i64 17,.int .i64 ia,.int .i64 ib,.int .i64 ic,.int .i64 id,.string s5,.string s6,.string s7,.slice A8 n8 c8] 74)
 have HC:=aq (fun (h : IvS w (w.alloc (Obj.cells #[.int .i64 17,.int .i64 ia,.int .i64 ib,.int .i64 ic,.int .i64 id,.string s5,.string s6,.string s7,.slice A8 n8 c8] 74)) base g (.slice A0 l0.length c0) (.slice A1 l1.length c1) (.string a2) (.string a3) (.string a4) m pc (.int .i64 17) (.int .i64 ia) (.int .i64 ib) (.int .i64 ic) (.int .i64 id) (.string s5) (.string s6) (.string s7) (.slice A8 n8 c8) v v l w.heap.size #[.int .i64 17,.int .i64 ia,.int .i64 ib,.int .i64 ic,.int .i64 id,.string s5,.string s6,.string s7,.slice A8 n8 c8] 74) => mk_field17 base g A0 c0 l0 A1 c1 l1 a2 a3 a4 m pc ia ib ic id s5 s6 s7 A8 n8 c8 ags v l (w.alloc (Obj.cells #[.int .i64 17,.int .i64 ia,.int .i64 ib,.int .i64 ic,.int .i64 id,.string s5,.string s6,.string s7,.slice A8 n8 c8] 74)) h.hm hl h.hs (Kd.C_below hr0 hab) hc0 (Kd.C_below hr1 hab) hc1 r1 r2 ok hf)
 clear hab
 have HS0:=aq (IvS.start hm hbz #[.int .i64 17,.int .i64 ia,.int .i64 ib,.int .i64 ic,.int .i64 id,.string s5,.string s6,.string s7,.slice A8 n8 c8] 74)
 have HL:=aq hl
 obtain ⟨e9,e10,e11,e12,e13,e14,e15,e16,e17⟩ : w.cell? ⟨g,9,none⟩ = some (.int .i64 17) ∧ w.cell? ⟨g,10,none⟩ = some (.int .i64 ia) ∧ w.cell? ⟨g,11,none⟩ = some (.int .i64 ib) ∧ w.cell? ⟨g,12,none⟩ = some (.int .i64 ic) ∧ w.cell? ⟨g,13,none⟩ = some (.int .i64 id) ∧ w.cell? ⟨g,14,none⟩ = some (.string s5) ∧ w.cell? ⟨g,15,none⟩ = some (.string s6) ∧ w.cell? ⟨g,16,none⟩ = some (.string s7) ∧ w.cell? ⟨g,17,none⟩ = some (.slice A8 n8 c8):=⟨blk_cell hm.b 9,blk_cell hm.b 10,blk_cell hm.b 11,blk_cell hm.b 12,blk_cell hm.b 13,blk_cell hm.b 14,blk_cell hm.b 15,blk_cell hm.b 16,blk_cell hm.b 17⟩
 clear hm hbz hl
 go_enter Try.func46,Try.ntmps46
 go_wp2_with fail
 clear e9 e10 e11 e12 e13 e14 e15 e16 e17
 refine (HC.out HS0.out).mono ?_
 rintro e w1 ⟨v1,ins,rfl,hm1,hln,hask,hb1,hk1⟩
 have HS1:=aq (HS0.out.put hm1 hb1 hk1)
 have HN:=aq hln
 have HK:=aq hask
 clear hm1 hln hask hb1 hk1
 go_wp2_with fail
 exact bodyPost_end (v:=.tuple #[]) (by simp [results,Try.results46,go_sem]) rfl (by first|exact ⟨_,ins,rfl,HS1.out.hm,HN.out,HK.out,HS1.out.hB,HS1.out.hK⟩|exact ⟨rfl,_,ins,HS1.out.hm,HN.out,HK.out,HS1.out.hB,HS1.out.hK⟩)
theorem iv_field18 (base g : Nat) (A0 : Option Addr) (c0 : Nat) (l0 : List S33) (A1 : Option Addr) (c1 : Nat) (l1 : List ByteArray) (a2 a3 a4 : ByteArray) (m : S25) (pc : Int) (ia ib ic id : Int) (s5 s6 s7 : ByteArray) (A8 : Option Addr) (n8 c8 : Nat) (ags : List Int) (v : Value) (l : List CV) (w : World) (hm : MkOwn w base g (.slice A0 l0.length c0) (.slice A1 l1.length c1) (.string a2) (.string a3) (.string a4) m pc (.int .i64 18) (.int .i64 ia) (.int .i64 ib) (.int .i64 ic) (.int .i64 id) (.string s5) (.string s6) (.string s7) (.slice A8 n8 c8) v l) (hl : l.length + 2 ≤ 1048576) (hbz : base ≤ w.heap.size) (hr0 : Kd.C k33 w A0 l0.length l0) (hc0 : l0.length ≤ c0) (hr1 : Kd.C Kd.string w A1 l1.length l1) (hc1 : l1.length ≤ c1) (r1 r2 : ByteArray) (ok : Bool) (hf : find_Field.f l0 l1 a2 a3 a4 s5 s6 = some (r1, r2, ok)) :
  Calls Try.prog 46 #[.pointer (some ⟨g,0,none⟩)] w fun e w' => ∃ v' ins,e = .returned (.tuple #[]) ∧ MkOwn w' base g (.slice A0 l0.length c0) (.slice A1 l1.length c1) (.string a2) (.string a3) (.string a4) m pc (.int .i64 18) (.int .i64 ia) (.int .i64 ib) (.int .i64 ic) (.int .i64 id) (.string s5) (.string s6) (.string s7) (.slice A8 n8 c8) v' (l ++ ins) ∧ ins.length ≤ 3 ∧ Asked m pc (⟨18,ia,ib,ic,id,s5,s6,s7,ags⟩ : S74) ins false ∧ Below base w w' ∧ Kp w w' g v v':=by
 have hab:=below_alloc (Below.refl w.heap.size w) (Obj.cells #[.int .i64 18,.int .i64 ia,.int .i64 ib,.int .i64 ic,.int .i64 id,.string s5,.string s6,.string s7,.slice A8 n8 c8] 74)
 have HC:=aq (fun (h : IvS w (w.alloc (Obj.cells #[.int .i64 18,.int .i64 ia,.int .i64 ib,.int .i64 ic,.int .i64 id,.string s5,.string s6,.string s7,.slice A8 n8 c8] 74)) base g (.slice A0 l0.length c0) (.slice A1 l1.length c1) (.string a2) (.string a3) (.string a4) m pc (.int .i64 18) (.int .i64 ia) (.int .i64 ib) (.int .i64 ic) (.int .i64 id) (.string s5) (.string s6) (.string s7) (.slice A8 n8 c8) v v l w.heap.size #[.int .i64 18,.int .i64 ia,.int .i64 ib,.int .i64 ic,.int .i64 id,.string s5,.string s6,.string s7,.slice A8 n8 c8] 74) => mk_field18 base g A0 c0 l0 A1 c1 l1 a2 a3 a4 m pc ia ib ic id s5 s6 s7 A8 n8 c8 ags v l (w.alloc (Obj.cells #[.int .i64 18,.int .i64 ia,.int .i64 ib,.int .i64 ic,.int .i64 id,.string s5,.string s6,.string s7,.slice A8 n8 c8] 74)) h.hm hl h.hs (Kd.C_below hr0 hab) hc0 (Kd.C_below hr1 hab) hc1 r1 r2 ok hf)
 clear hab
 have HS0:=aq (IvS.start hm hbz #[.int .i64 18,.int .i64 ia,.int .i64 ib,.int .i64 ic,.int .i64 id,.string s5,.string s6,.string s7,.slice A8 n8 c8] 74)
 have HL:=aq hl
 obtain ⟨e9,e10,e11,e12,e13,e14,e15,e16,e17⟩ : w.cell? ⟨g,9,none⟩ = some (.int .i64 18) ∧ w.cell? ⟨g,10,none⟩ = some (.int .i64 ia) ∧ w.cell? ⟨g,11,none⟩ = some (.int .i64 ib) ∧ w.cell? ⟨g,12,none⟩ = some (.int .i64 ic) ∧ w.cell? ⟨g,13,none⟩ = some (.int .i64 id) ∧ w.cell? ⟨g,14,none⟩ = some (.string s5) ∧ w.cell? ⟨g,15,none⟩ = some (.string s6) ∧ w.cell? ⟨g,16,none⟩ = some (.string s7) ∧ w.cell? ⟨g,17,none⟩ = some (.slice A8 n8 c8):=⟨blk_cell hm.b 9,blk_cell hm.b 10,blk_cell hm.b 11,blk_cell hm.b 12,blk_cell hm.b 13,blk_cell hm.b 14,blk_cell hm.b 15,blk_cell hm.b 16,blk_cell hm.b 17⟩
 clear hm hbz hl
 go_enter Try.func46,Try.ntmps46
 go_wp2_with fail
 clear e9 e10 e11 e12 e13 e14 e15 e16 e17
 refine (HC.out HS0.out).mono ?_
 rintro e w1 ⟨v1,ins,rfl,hm1,hln,hask,hb1,hk1⟩
 have HS1:=aq (HS0.out.put hm1 hb1 hk1)
 have HN:=aq hln
 have HK:=aq hask
 clear hm1 hln hask hb1 hk1
 go_wp2_with fail
 exact bodyPost_end (v:=.tuple #[]) (by simp [results,Try.results46,go_sem]) rfl (by first|exact ⟨_,ins,rfl,HS1.out.hm,HN.out,HK.out,HS1.out.hB,HS1.out.hK⟩|exact ⟨rfl,_,ins,HS1.out.hm,HN.out,HK.out,HS1.out.hB,HS1.out.hK⟩)
end Go.Proofs.Ytfplcohjnlbfjaa.HandV
end

section
namespace Go.Proofs.Ytfplcohjnlbfjaa.Hand
open Go.RowKit Go.Proofs.YtfplcohjnlbfjaaW
open PrintWords PrintLast PrintMore
theorem int_info : (Try.prog.info? 3).map (fun i => (i.zero, i.size, i.bytes)) = some (some (.int .i64 0), 1, 8) := by kernel_rfl
def slices_Clone_int_int.f (l0 : List Int) : Option (List Int) := if l0.length ≤ 1048576 then some l0 else none
theorem own_emptyI (W : World) (base e g : Nat) (h : W.heap[g]? = some (.cells #[] e (0, 0))) (hb : base ≤ g) : W.ownsRow base e 1 (.slice (some ⟨g, 0, none⟩) 0 0) 0 [] :=
 ⟨rfl,.inr ⟨g,0,#[],rfl,hb,h,Nat.le_refl _,by decide,rfl,rfl⟩⟩
theorem slices_Clone_int_int.calls (A0 : Option Addr) (c0 : Nat) (l0 : List Int) (r : List Int) (w : World) (hr0 : Kd.C (Kd.int .i64) w A0 l0.length l0) (hc0 : l0.length ≤ c0) (h : slices_Clone_int_int.f l0 = some r) :
  Calls Try.prog 92 #[.slice A0 l0.length c0] w fun e w' => ∃ v0_ : Value,e = .returned (v0_) ∧ Kd.R (Kd.int .i64) 3 w' w.heap.size (fun _ => True) v0_ r ∧ Below w.heap.size w w':=by
 unfold slices_Clone_int_int.f at h
 split at h
 ·
  rename_i hg
  obtain rfl:=Option.some.inj h
  clear h
  have HR:=aq hr0
  cases A0 with
  | none =>
   have hn : l0.length = 0:=by
    rcases Nat.eq_zero_or_pos l0.length with h|h
    ·
     exact h
    ·
     obtain ⟨ad,h1,_⟩:=(Kd.reads_of_C (enc:=Value.int .i64) (d:=(0 : Int)) (h1:=fun _ => rfl) hr0).2.2 h
     cases h1
   obtain rfl:=List.length_eq_zero_iff.1 hn
   have hq:=fun (W : World) (n c : Nat) => Lib.run_eql_slice_nil (P:=Try.prog) W 58 3 none n c 0 0 Try.underlying58
   clear hr0 hn hg
   go_enter Try.func92,Try.ntmps92
   go_wp2
   go_ret
   exact ⟨_,rfl,Kd.R_nil _ _ _ _ _,Below.refl _ _⟩
  | some ad =>
   clear hr0
   have hq:=fun (W : World) (n c : Nat) => Lib.run_eql_slice_nil (P:=Try.prog) W 58 3 (some ad) n c 0 0 Try.underlying58
   go_enter Try.func92,Try.ntmps92
   go_wp2_with (first|(at_builtin;refine Kd.R_append_rows (Kd.int .i64) (w0:=w) w.heap.size rfl (.tmp 5) (.tmp 6) 58 3 (.int .i64 0) 8 rfl Try.underlying58 int_info rfl (by decide) (by omega) (.slice (some ⟨w.heap.size,0,none⟩) 0 0) ([] : List Int) l0 _ _ _ (fun _ => True) (fun _ => False) rfl rfl ?aO ?aR (fun _ _ h => h) (fun _ h => h.elim) ?aF ?aB ?aS ?aL ?_;(case aR => exact Kd.C_alloc HR.out _);(case aB => exact below_alloc (Below.refl _ _) _);(case aF => exact (fun _ _ => trivial));(case aO => exact (Kd.R_of_own (own_emptyI _ _ _ _ (blk_new _ _) (Nat.le_refl _)) (fun _ _ => trivial)));(case aS => exact (by simp));(case aL => exact (by show (0 + l0.length) * 8 ≤ 140737488355328;omega));intro v1 w1 ho hb hg hat;have HB2:=aq hb;have HO2:=aq ho;clear ho hb hg hat))
   go_ret
   exact ⟨_,rfl,HO2.out,HB2.out⟩
 ·
  cases h
def ansB (s : ByteArray) : Bool := decide ((splitD classL (bl s)).2.2 = 0) && decide ((splitD classL (bl s)).2.1.1 ≠ 1)
def ansP (m : S25) (ia : Int) (s : ByteArray) : S50 := if ansB s = true then ⟨1, m, ia, z44, z46⟩ else z50
theorem mk_answer (g : Nat) (a0 a1 a2 a3 a4 : Value) (m : S25) (pc : Int) (b0 : Value) (ia : Int) (b2 b3 b4 b5 b6 : Value) (s7 : ByteArray) (b8 v : Value) (w : World) (hm : w.heap[g]? = some (Obj.cells #[a0, a1, a2, a3, a4, .string m.f0, .string m.f1, .string m.f2, .int .i64 pc, b0, .int .i64 ia, b2, b3, b4, b5, b6, .string s7, b8, v] 85 (0, 0))) (hM : MaxL w) (hs : s7.size ≤ 1048576) :
  Calls Try.prog 91 #[.pointer (some ⟨g,0,none⟩)] w fun e w' => e = .returned (.agg #[.int .i64 (ansP m ia s7).f0,.string (ansP m ia s7).f1.f0,.string (ansP m ia s7).f1.f1,.string (ansP m ia s7).f1.f2,.int .i64 (ansP m ia s7).f2,.string (ansP m ia s7).f3.f0,.string (ansP m ia s7).f3.f1,.string (ansP m ia s7).f4.f0.f0,.string (ansP m ia s7).f4.f0.f1,.string (ansP m ia s7).f4.f0.f2,.int .i64 (ansP m ia s7).f4.f1,.string (ansP m ia s7).f4.f2]) ∧ Below w.heap.size w w':=by
 have hab:=below_alloc (Below.refl w.heap.size w) (Obj.cells (List.toArray (qZ [])) 50)
 have HSP:=aq (kind_split s7 (w.alloc (Obj.cells (List.toArray (qZ [])) 50)) (max_below hM hab) hs)
 have hb:=blk_below hm hab
 have HZ0:=aq (World.alloc_heap_new w (Obj.cells (List.toArray (qZ [])) 50))
 have HB0:=aq hab
 have HG0:=aq hb
 have e16 : (w.alloc (Obj.cells (List.toArray (qZ [])) 50)).cell? ⟨g,16,none⟩ = some (.string s7):=blk_cell hb 16
 have HRG:=aq (fun W (hW : W.heap[g]? = some (Obj.cells #[a0,a1,a2,a3,a4,.string m.f0,.string m.f1,.string m.f2,.int .i64 pc,b0,.int .i64 ia,b2,b3,b4,b5,b6,.string s7,b8,v] 85 (0,0))) => maker_reg g a0 a1 a2 a3 a4 m pc (b0) (.int .i64 ia) (b2) (b3) (b4) (b5) (b6) (.string s7) (b8) v ia W hW)
 obtain ⟨PA,hPA⟩ : ∃ PA,ansP m ia s7 = PA:=⟨_,rfl⟩
 obtain ⟨q,hq⟩ : ∃ q,splitD classL (bl s7) = q:=⟨_,rfl⟩
 have HPA : Aside0 (PA = if (decide (q.2.2 = 0) && decide (q.2.1.1 ≠ 1)) = true then ⟨1,m,ia,z44,z46⟩ else z50):=⟨by rw [← hPA,← hq];rfl⟩
 rw [hq] at HSP
 rw [hPA]
 clear hPA hq hm hab hb hM hs
 go_enter Try.func91,Try.ntmps91
 go_wp2_with fail
 refine HSP.out.mono ?_
 rintro e w1 ⟨vS,rfl,hR,hb⟩
 obtain ⟨AS,cS,hvS⟩:=Kd.R_slice hR
 subst hvS
 have HZ1:=aq (blk_below HZ0.out hb)
 have HB1:=aq (below_step HB0.out hb)
 have HG1:=aq (blk_below HG0.out hb)
 have HTB:=aq (World.alloc_heap_new w1 (Obj.cells #[.int .i64 q.2.1.1,.string (lb q.2.1.2)] 97))
 have hba:=below_alloc (Below.refl w1.heap.size w1) (Obj.cells #[.int .i64 q.2.1.1,.string (lb q.2.1.2)] 97)
 have HZ2:=aq (blk_below HZ1.out hba)
 have HB2:=aq (below_step HB1.out hba)
 have HG2:=aq (blk_below HG1.out hba)
 clear hb hR hba e16 HSP
 have e10 : (w1.alloc (Obj.cells #[.int .i64 q.2.1.1,.string (lb q.2.1.2)] 97)).cell? ⟨g,10,none⟩ = some (.int .i64 ia):=blk_cell HG2.out 10
 obtain ⟨y0,y1⟩:=cells2f HTB.out
 obtain ⟨z0,z1,z2,z3,z4,z5,z6,z7,z8,z9,z10,z11⟩:=cells12 HZ2.out
 have zf:=blk_frozen HZ2.out
 obtain ⟨qe,hqe⟩ : ∃ qe,q.2.2 = qe:=⟨_,rfl⟩
 obtain ⟨qk,hqk⟩ : ∃ qk,q.2.1.1 = qk:=⟨_,rfl⟩
 obtain ⟨qc,hqc⟩ : ∃ qc,q.2.1.2 = qc:=⟨_,rfl⟩
 rw [hqe,hqk] at HPA
 rw [hqe,hqk,hqc]
 rw [hqk,hqc] at HTB HZ2 HB2 HG2 e10 y0 y1 z0 z1 z2 z3 z4 z5 z6 z7 z8 z9 z10 z11 zf
 clear hqe hqk hqc
 by_cases h0 : qe = 0
 ·
  have k0 : (qe != 0) = false:=by rw [h0];rfl
  by_cases h1 : qk = 1
  ·
   have k1 : (qk == 1) = true:=by rw [h1];rfl
   have HPB : Aside0 (PA = z50):=⟨by rw [HPA.out,if_neg (by rw [decide_eq_true h0,decide_eq_false (fun h => h h1)];decide)]⟩
   clear h0 h1 HPA
   go_wp2_with fail
   exact bodyPost_ret (results_cell_row rfl _ _ w.heap.size 50 (List.toArray (qZ [])) (0,0) _ rfl (set12_own HZ2.out _ _ _ _ _ _ _ _ _ _ _ _) Try.underlying50 rfl (by kernel_rfl)) rfl ⟨by rw [HPB.out];rfl,set12_below HB2.out (Nat.le_refl _) _ _ _ _ _ _ _ _ _ _ _ _⟩
  ·
   have k1 : (qk == 1) = false:=beq_eq_false_iff_ne.2 h1
   have HPB : Aside0 (PA = ⟨1,m,ia,z44,z46⟩):=⟨by rw [HPA.out,if_pos (by rw [decide_eq_true h0,decide_eq_true h1];rfl)]⟩
   clear h0 h1 HPA
   go_wp2_with fail
   refine (HRG.out _ HG2.out).mono ?_
   rintro e w3 ⟨rfl,hb⟩
   have HZ3:=aq (blk_below HZ2.out hb)
   have HB3:=aq (below_step HB2.out hb)
   clear hb e10 y0 y1 zf z0 z1 z2 z3 z4 z5 z6 z7 z8 z9 z10 z11
   obtain ⟨z0,z1,z2,z3,z4,z5,z6,z7,z8,z9,z10,z11⟩:=cells12 HZ3.out
   have zf:=blk_frozen HZ3.out
   go_wp2_with fail
   exact bodyPost_ret (results_cell_row rfl _ _ w.heap.size 50 (List.toArray (qR 1 m ia [])) (0,0) _ rfl (set12_own HZ3.out _ _ _ _ _ _ _ _ _ _ _ _) Try.underlying50 rfl (by kernel_rfl)) rfl ⟨by rw [HPB.out];rfl,set12_below HB3.out (Nat.le_refl _) _ _ _ _ _ _ _ _ _ _ _ _⟩
 ·
  have k0 : (qe != 0) = true:=bne_iff_ne.2 h0
  have HPB : Aside0 (PA = z50):=⟨by rw [HPA.out,if_neg (by rw [decide_eq_false h0,Bool.false_and];decide)]⟩
  clear h0 HPA
  go_wp2_with fail
  exact bodyPost_ret (results_cell_row rfl _ _ w.heap.size 50 (List.toArray (qZ [])) (0,0) _ rfl (set12_own HZ2.out _ _ _ _ _ _ _ _ _ _ _ _) Try.underlying50 rfl (by kernel_rfl)) rfl ⟨by rw [HPB.out];rfl,set12_below HB2.out (Nat.le_refl _) _ _ _ _ _ _ _ _ _ _ _ _⟩
end Go.Proofs.Ytfplcohjnlbfjaa.Hand
end

section
namespace Go.Proofs.Ytfplcohjnlbfjaa.Hand
open Go.RowKit Go.Proofs.YtfplcohjnlbfjaaW
open PrintWords PrintLast PrintMore
theorem instr_new (base g : Nat) (a0 a1 a2 a3 a4 : Value) (m : S25) (pc : Int) (ia ib ic id : Int) (s5 s6 s7 : ByteArray) (A8 : Option Addr) (n8 c8 : Nat) (v : Value) (l : List S60) (w : World) (hm : MkOwn w base g a0 a1 a2 a3 a4 m pc (.int .i64 9) (.int .i64 ia) (.int .i64 ib) (.int .i64 ic) (.int .i64 id) (.string s5) (.string s6) (.string s7) (.slice A8 n8 c8) v l) (hl : l.length + 2 ≤ 1048576) (hbz : base ≤ w.heap.size) :
  Calls Try.prog 46 #[.pointer (some ⟨g,0,none⟩)] w fun e w' => ∃ v',e = .returned (.tuple #[]) ∧ MkOwn w' base g a0 a1 a2 a3 a4 m pc (.int .i64 9) (.int .i64 ia) (.int .i64 ib) (.int .i64 ic) (.int .i64 id) (.string s5) (.string s6) (.string s7) (.slice A8 n8 c8) v' (l ++ [(⟨7,pc,z50,z50,⟨m,0,⟨#[]⟩⟩,z44,s5,z25,[]⟩ : S60)] ++ [(⟨1,pc,(⟨1,m,ia,z44,z46⟩ : S50),z50,⟨m,pc,s5⟩,z44,⟨#[]⟩,z25,[]⟩ : S60)]) ∧ Below base w w' ∧ Kp w w' g v v':=by
 have hab:=below_alloc (Below.refl w.heap.size w) (Obj.cells #[.int .i64 9,.int .i64 ia,.int .i64 ib,.int .i64 ic,.int .i64 id,.string s5,.string s6,.string s7,.slice A8 n8 c8] 74)
 have HA:=aq hab
 have HM0:=aq (hm.below hab hbz)
 have HZ0 : Aside0 ((w.alloc (Obj.cells #[.int .i64 9,.int .i64 ia,.int .i64 ib,.int .i64 ic,.int .i64 id,.string s5,.string s6,.string s7,.slice A8 n8 c8] 74)).heap[w.heap.size]? = some (Obj.cells #[.int .i64 9,.int .i64 ia,.int .i64 ib,.int .i64 ic,.int .i64 id,.string s5,.string s6,.string s7,.slice A8 n8 c8] 74 (0,0))):=⟨World.alloc_heap_new w _⟩
 have HNg : Aside0 (w.heap.size ≠ g):=⟨Nat.ne_of_gt (blk_lt hm.b)⟩
 have HNv : Aside0 (some w.heap.size ≠ v.ownBlock):=⟨fun e => by have:=Kd.R_lt hm.r _ e.symm;omega⟩
 have HBz:=aq hbz
 have HL:=aq hl
 obtain ⟨e9,e10,e11,e12,e13,e14,e15,e16,e17⟩ : w.cell? ⟨g,9,none⟩ = some (.int .i64 9) ∧ w.cell? ⟨g,10,none⟩ = some (.int .i64 ia) ∧ w.cell? ⟨g,11,none⟩ = some (.int .i64 ib) ∧ w.cell? ⟨g,12,none⟩ = some (.int .i64 ic) ∧ w.cell? ⟨g,13,none⟩ = some (.int .i64 id) ∧ w.cell? ⟨g,14,none⟩ = some (.string s5) ∧ w.cell? ⟨g,15,none⟩ = some (.string s6) ∧ w.cell? ⟨g,16,none⟩ = some (.string s7) ∧ w.cell? ⟨g,17,none⟩ = some (.slice A8 n8 c8):=⟨blk_cell hm.b 9,blk_cell hm.b 10,blk_cell hm.b 11,blk_cell hm.b 12,blk_cell hm.b 13,blk_cell hm.b 14,blk_cell hm.b 15,blk_cell hm.b 16,blk_cell hm.b 17⟩
 clear hm hab hbz hl
 go_enter Try.func46,Try.ntmps46
 go_wp2_with fail
 refine (maker_begins base g a0 a1 a2 a3 a4 m pc (.int .i64 9) (.int .i64 ia) (.int .i64 ib) (.int .i64 ic) (.int .i64 id) (.string s5) (.string s6) (.string s7) (.slice A8 n8 c8) v l s5 (w.alloc (Obj.cells #[.int .i64 9,.int .i64 ia,.int .i64 ib,.int .i64 ic,.int .i64 id,.string s5,.string s6,.string s7,.slice A8 n8 c8] 74)) HM0.out (by have:=HL.out;omega) (Nat.le_trans HBz.out HA.out.size)).mono ?_
 rintro e w1 ⟨v1,rfl,hm1,hb1,hk1⟩
 have HM1:=aq hm1
 have HB1:=aq ((HA.out.mono HBz.out).trans hb1)
 have HK1:=aq (Kp.pre HA.out hk1)
 have HZ1:=aq (hk1.blk HZ0.out HNg.out HNv.out)
 have HS1:=aq (Nat.le_trans (Nat.le_trans HBz.out HA.out.size) hk1.1.1)
 clear hm1 hb1 hk1 e9 e10 e11 e12 e13 e14 e15 e16 e17
 have z5 : w1.cell? ⟨w.heap.size,5,none⟩ = some (.string s5):=blk_cell HZ1.out 5
 go_wp2_with fail
 refine (maker_fresh base g a0 a1 a2 a3 a4 m pc (.int .i64 9) (.int .i64 ia) (.int .i64 ib) (.int .i64 ic) (.int .i64 id) (.string s5) (.string s6) (.string s7) (.slice A8 n8 c8) v1 (l ++ [(⟨7,pc,z50,z50,⟨m,0,⟨#[]⟩⟩,z44,s5,z25,[]⟩ : S60)]) ia s5 w1 HM1.out (by have:=HL.out;rw [List.length_append];show l.length + 1 ≤ _;omega) HS1.out).mono ?_
 rintro e w2 ⟨v2,rfl,hm2,hb2,hk2⟩
 have HM2:=aq hm2
 have HB2:=aq (HB1.out.trans hb2)
 have HK2:=aq (HK1.out.trans hk2)
 clear hm2 hb2 hk2 z5
 go_wp2_with fail
 exact bodyPost_end (v:=.tuple #[]) (by simp [results,Try.results46,go_sem]) rfl (by first|exact ⟨rfl,⟨_,HM2.out,HB2.out,HK2.out⟩⟩|exact ⟨_,rfl,HM2.out,HB2.out,HK2.out⟩)
theorem instr_end (base g : Nat) (a0 a1 a2 a3 a4 : Value) (m : S25) (pc : Int) (ia ib ic id : Int) (s5 s6 s7 : ByteArray) (A8 : Option Addr) (n8 c8 : Nat) (v : Value) (l : List S60) (w : World) (hm : MkOwn w base g a0 a1 a2 a3 a4 m pc (.int .i64 23) (.int .i64 ia) (.int .i64 ib) (.int .i64 ic) (.int .i64 id) (.string s5) (.string s6) (.string s7) (.slice A8 n8 c8) v l) (hl : l.length + 2 ≤ 1048576) (hbz : base ≤ w.heap.size) :
  Calls Try.prog 46 #[.pointer (some ⟨g,0,none⟩)] w fun e w' => ∃ v',e = .returned (.tuple #[]) ∧ MkOwn w' base g a0 a1 a2 a3 a4 m pc (.int .i64 23) (.int .i64 ia) (.int .i64 ib) (.int .i64 ic) (.int .i64 id) (.string s5) (.string s6) (.string s7) (.slice A8 n8 c8) v' (l) ∧ Below base w w' ∧ Kp w w' g v v':=by
 have hab:=below_alloc (Below.refl w.heap.size w) (Obj.cells #[.int .i64 23,.int .i64 ia,.int .i64 ib,.int .i64 ic,.int .i64 id,.string s5,.string s6,.string s7,.slice A8 n8 c8] 74)
 have HA:=aq hab
 have HM0:=aq (hm.below hab hbz)
 have HZ0 : Aside0 ((w.alloc (Obj.cells #[.int .i64 23,.int .i64 ia,.int .i64 ib,.int .i64 ic,.int .i64 id,.string s5,.string s6,.string s7,.slice A8 n8 c8] 74)).heap[w.heap.size]? = some (Obj.cells #[.int .i64 23,.int .i64 ia,.int .i64 ib,.int .i64 ic,.int .i64 id,.string s5,.string s6,.string s7,.slice A8 n8 c8] 74 (0,0))):=⟨World.alloc_heap_new w _⟩
 have HNg : Aside0 (w.heap.size ≠ g):=⟨Nat.ne_of_gt (blk_lt hm.b)⟩
 have HNv : Aside0 (some w.heap.size ≠ v.ownBlock):=⟨fun e => by have:=Kd.R_lt hm.r _ e.symm;omega⟩
 have HBz:=aq hbz
 have HL:=aq hl
 obtain ⟨e9,e10,e11,e12,e13,e14,e15,e16,e17⟩ : w.cell? ⟨g,9,none⟩ = some (.int .i64 23) ∧ w.cell? ⟨g,10,none⟩ = some (.int .i64 ia) ∧ w.cell? ⟨g,11,none⟩ = some (.int .i64 ib) ∧ w.cell? ⟨g,12,none⟩ = some (.int .i64 ic) ∧ w.cell? ⟨g,13,none⟩ = some (.int .i64 id) ∧ w.cell? ⟨g,14,none⟩ = some (.string s5) ∧ w.cell? ⟨g,15,none⟩ = some (.string s6) ∧ w.cell? ⟨g,16,none⟩ = some (.string s7) ∧ w.cell? ⟨g,17,none⟩ = some (.slice A8 n8 c8):=⟨blk_cell hm.b 9,blk_cell hm.b 10,blk_cell hm.b 11,blk_cell hm.b 12,blk_cell hm.b 13,blk_cell hm.b 14,blk_cell hm.b 15,blk_cell hm.b 16,blk_cell hm.b 17⟩
 clear hm hab hbz hl
 go_enter Try.func46,Try.ntmps46
 go_wp2_with fail
 have HM2:=HM0
 have HB2:=aq (HA.out.mono HBz.out)
 have HK2 : Aside0 (Kp w (w.alloc (Obj.cells #[.int .i64 23,.int .i64 ia,.int .i64 ib,.int .i64 ic,.int .i64 id,.string s5,.string s6,.string s7,.slice A8 n8 c8] 74)) g v v):=⟨⟨⟨HA.out.size,fun i hi _ _ => HA.out.block i hi⟩,.inl rfl⟩⟩
 exact bodyPost_end (v:=.tuple #[]) (by simp [results,Try.results46,go_sem]) rfl (by first|exact ⟨rfl,⟨_,HM2.out,HB2.out,HK2.out⟩⟩|exact ⟨_,rfl,HM2.out,HB2.out,HK2.out⟩)
theorem instr_cast (base g : Nat) (a0 a1 a2 a3 a4 : Value) (m : S25) (pc : Int) (ia ib ic id : Int) (s5 s6 s7 : ByteArray) (A8 : Option Addr) (n8 c8 : Nat) (v : Value) (l : List S60) (w : World) (hm : MkOwn w base g a0 a1 a2 a3 a4 m pc (.int .i64 25) (.int .i64 ia) (.int .i64 ib) (.int .i64 ic) (.int .i64 id) (.string s5) (.string s6) (.string s7) (.slice A8 n8 c8) v l) (hl : l.length + 2 ≤ 1048576) (hbz : base ≤ w.heap.size) :
  Calls Try.prog 46 #[.pointer (some ⟨g,0,none⟩)] w fun e w' => ∃ v',e = .returned (.tuple #[]) ∧ MkOwn w' base g a0 a1 a2 a3 a4 m pc (.int .i64 25) (.int .i64 ia) (.int .i64 ib) (.int .i64 ic) (.int .i64 id) (.string s5) (.string s6) (.string s7) (.slice A8 n8 c8) v' (l ++ [(⟨2,pc,(⟨1,m,ia,z44,z46⟩ : S50),(⟨1,m,ib,z44,z46⟩ : S50),⟨m,0,⟨#[]⟩⟩,z44,s5,z25,[]⟩ : S60)]) ∧ Below base w w' ∧ Kp w w' g v v':=by
 have hab:=below_alloc (Below.refl w.heap.size w) (Obj.cells #[.int .i64 25,.int .i64 ia,.int .i64 ib,.int .i64 ic,.int .i64 id,.string s5,.string s6,.string s7,.slice A8 n8 c8] 74)
 have HA:=aq hab
 have HM0:=aq (hm.below hab hbz)
 have HZ0 : Aside0 ((w.alloc (Obj.cells #[.int .i64 25,.int .i64 ia,.int .i64 ib,.int .i64 ic,.int .i64 id,.string s5,.string s6,.string s7,.slice A8 n8 c8] 74)).heap[w.heap.size]? = some (Obj.cells #[.int .i64 25,.int .i64 ia,.int .i64 ib,.int .i64 ic,.int .i64 id,.string s5,.string s6,.string s7,.slice A8 n8 c8] 74 (0,0))):=⟨World.alloc_heap_new w _⟩
 have HNg : Aside0 (w.heap.size ≠ g):=⟨Nat.ne_of_gt (blk_lt hm.b)⟩
 have HNv : Aside0 (some w.heap.size ≠ v.ownBlock):=⟨fun e => by have:=Kd.R_lt hm.r _ e.symm;omega⟩
 have HBz:=aq hbz
 have HL:=aq hl
 obtain ⟨e9,e10,e11,e12,e13,e14,e15,e16,e17⟩ : w.cell? ⟨g,9,none⟩ = some (.int .i64 25) ∧ w.cell? ⟨g,10,none⟩ = some (.int .i64 ia) ∧ w.cell? ⟨g,11,none⟩ = some (.int .i64 ib) ∧ w.cell? ⟨g,12,none⟩ = some (.int .i64 ic) ∧ w.cell? ⟨g,13,none⟩ = some (.int .i64 id) ∧ w.cell? ⟨g,14,none⟩ = some (.string s5) ∧ w.cell? ⟨g,15,none⟩ = some (.string s6) ∧ w.cell? ⟨g,16,none⟩ = some (.string s7) ∧ w.cell? ⟨g,17,none⟩ = some (.slice A8 n8 c8):=⟨blk_cell hm.b 9,blk_cell hm.b 10,blk_cell hm.b 11,blk_cell hm.b 12,blk_cell hm.b 13,blk_cell hm.b 14,blk_cell hm.b 15,blk_cell hm.b 16,blk_cell hm.b 17⟩
 clear hm hab hbz hl
 go_enter Try.func46,Try.ntmps46
 go_wp2_with fail
 clear e9 e10 e11 e12 e13 e14 e15 e16 e17
 have HBX : Aside0 (Below w.heap.size w (w.alloc (Obj.cells #[.int .i64 25,.int .i64 ia,.int .i64 ib,.int .i64 ic,.int .i64 id,.string s5,.string s6,.string s7,.slice A8 n8 c8] 74)).drew):=⟨below_drew1 HA.out⟩
 have HMX : Aside0 (MkOwn (w.alloc (Obj.cells #[.int .i64 25,.int .i64 ia,.int .i64 ib,.int .i64 ic,.int .i64 id,.string s5,.string s6,.string s7,.slice A8 n8 c8] 74)).drew base g a0 a1 a2 a3 a4 m pc (.int .i64 25) (.int .i64 ia) (.int .i64 ib) (.int .i64 ic) (.int .i64 id) (.string s5) (.string s6) (.string s7) (.slice A8 n8 c8) v l):=⟨HM0.out.below (below_drew1 (Below.refl _ _)) (Nat.le_trans HBz.out HA.out.size)⟩
 have HSX : Aside0 (base ≤ (w.alloc (Obj.cells #[.int .i64 25,.int .i64 ia,.int .i64 ib,.int .i64 ic,.int .i64 id,.string s5,.string s6,.string s7,.slice A8 n8 c8] 74)).drew.heap.size):=⟨Nat.le_trans HBz.out HBX.out.size⟩
 have z1 : (w.alloc (Obj.cells #[.int .i64 25,.int .i64 ia,.int .i64 ib,.int .i64 ic,.int .i64 id,.string s5,.string s6,.string s7,.slice A8 n8 c8] 74)).drew.cell? ⟨w.heap.size,1,none⟩ = some (.int .i64 ia):=blk_cell HZ0.out 1
 have z2 : (w.alloc (Obj.cells #[.int .i64 25,.int .i64 ia,.int .i64 ib,.int .i64 ic,.int .i64 id,.string s5,.string s6,.string s7,.slice A8 n8 c8] 74)).drew.cell? ⟨w.heap.size,2,none⟩ = some (.int .i64 ib):=blk_cell HZ0.out 2
 have z5 : (w.alloc (Obj.cells #[.int .i64 25,.int .i64 ia,.int .i64 ib,.int .i64 ic,.int .i64 id,.string s5,.string s6,.string s7,.slice A8 n8 c8] 74)).drew.cell? ⟨w.heap.size,5,none⟩ = some (.string s5):=blk_cell HZ0.out 5
 refine start_ (n:=12) (S:=fun w' => w'.cell? ⟨w.heap.size,1,none⟩ = some (.int .i64 ia) ∧ w'.cell? ⟨w.heap.size,2,none⟩ = some (.int .i64 ib) ∧ w'.cell? ⟨w.heap.size,5,none⟩ = some (.string s5)) (ds:=[11]) (Array.replicate 12 false) (by kernel_rfl) rfl rfl ⟨z1,z2,z5⟩ (fun hHeld => ?_)
 generalize (w.alloc (Obj.cells #[.int .i64 25,.int .i64 ia,.int .i64 ib,.int .i64 ic,.int .i64 id,.string s5,.string s6,.string s7,.slice A8 n8 c8] 74)).drew = X at HMX HSX HBX z1 z2 z5 hHeld ⊢
 refine sP (i:=0) (N:=some 23) ?_
 refine sP (i:=1) (N:=some 24) ?_
 refine sP (i:=2) (N:=some 25) ?_
 refine sP (i:=5) (N:=some 28) ?_
 refine sP (i:=6) (N:=some 29) ?_
 refine sP (i:=9) (N:=some 32) ?_
 refine sT (i:=3) (N:=some 26) hHeld ?_
 refine sT (i:=7) (N:=some 30) hHeld ?_
 refine sT (i:=10) (N:=some 33) hHeld ?_
 refine sO (i:=4) (N:=some 27) fun K hK => ?_
 refine sG Try.func38 #[.pointer (some ⟨g,0,none⟩),.int .i64 ia] ?_
 refine (maker_reg g a0 a1 a2 a3 a4 m pc (.int .i64 25) (.int .i64 ia) (.int .i64 ib) (.int .i64 ic) (.int .i64 id) (.string s5) (.string s6) (.string s7) (.slice A8 n8 c8) v ia X HMX.out.b).mono ?_
 rintro e w1 ⟨rfl,hb⟩
 refine ⟨_,rfl,?_⟩
 have y1:=sC hb z1
 have y2:=sC hb z2
 have y5:=sC hb z5
 have HM1:=aq (HMX.out.below hb HSX.out)
 have HB1:=aq hb
 clear hb
 refine hK.out _ _ ⟨y1,y2,y5⟩ (fun hHeld => ?_)
 clear hK K
 refine sN ?_
 refine sO (i:=8) (N:=some 31) fun K hK => ?_
 refine sG Try.func38 #[.pointer (some ⟨g,0,none⟩),.int .i64 ib] ?_
 refine (maker_reg g a0 a1 a2 a3 a4 m pc (.int .i64 25) (.int .i64 ia) (.int .i64 ib) (.int .i64 ic) (.int .i64 id) (.string s5) (.string s6) (.string s7) (.slice A8 n8 c8) v ib w1 HM1.out.b).mono ?_
 rintro e w2 ⟨rfl,hb⟩
 refine ⟨_,rfl,?_⟩
 have x1:=sC hb y1
 have x2:=sC hb y2
 have x5:=sC hb y5
 have HM2:=aq (HM1.out.below hb (Nat.le_trans HSX.out HB1.out.size))
 have HB2:=aq (below_step HB1.out hb)
 clear hb
 refine hK.out _ _ ⟨x1,x2,x5⟩ (fun hHeld => ?_)
 clear hK K
 refine sN ?_
 refine sX (i:=11) (N:=some 34) fun K hK => ?_
 refine sG Try.func37 #[.pointer (some ⟨g,0,none⟩),.agg (List.toArray (qR 1 m ia [])),.agg (List.toArray (qR 1 m ib [])),.string s5] ?_
 refine (maker_flows base g a0 a1 a2 a3 a4 m pc (.int .i64 25) (.int .i64 ia) (.int .i64 ib) (.int .i64 ic) (.int .i64 id) (.string s5) (.string s6) (.string s7) (.slice A8 n8 c8) v l (⟨1,m,ia,z44,z46⟩ : S50) (⟨1,m,ib,z44,z46⟩ : S50) s5 w2 HM2.out (by have:=HL.out;omega) (Nat.le_trans HSX.out HB2.out.size)).mono ?_
 rintro e w3 ⟨v3,rfl,hm3,hb3,hk3⟩
 refine ⟨_,rfl,?_⟩
 have HM3:=aq hm3
 have HB3:=aq ((HBX.out.mono HBz.out).trans ((HB2.out.mono HSX.out).trans hb3))
 have HK3:=aq (Kp.pre HBX.out (Kp.pre HB2.out hk3))
 clear hm3 hb3 hk3
 refine hK.out _ _ ?_
 clear hK K
 refine sN ?_
 refine done_ (by kernel_rfl) ?_
 go_wp2_with fail
 exact bodyPost_end (v:=.tuple #[]) (by simp [results,Try.results46,go_sem]) rfl (by first|exact ⟨rfl,⟨_,HM3.out,HB3.out,HK3.out⟩⟩|exact ⟨_,rfl,HM3.out,HB3.out,HK3.out⟩)
end Go.Proofs.Ytfplcohjnlbfjaa.Hand
end
