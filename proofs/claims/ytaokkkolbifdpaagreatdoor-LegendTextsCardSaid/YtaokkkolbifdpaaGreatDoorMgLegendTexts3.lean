import Derived.Test.YtaokkkolbifdpaaGreatDoorMgLegendTexts1
import Derived.Test.YtaokkkolbifdpaaGreatDoorMgLegendTexts2
import Derived.Shelf.Spec.SlicesGrow
import Derived.IntWalk
import Derived.Test.YtaokkkolbifdpaaGreatDoorProg
import Derived.Below
import Derived.Deep.Draws
import Derived.Deep.AppendLies
import Derived.Maps.AppendAt
import Derived.OwnWalk
import Derived.Laws.BytesArg
import Derived.Laws.MakeOwn
import Derived.Laws.OwnMore
import Derived.Deep.OwnRows
import Derived.Tactics
import Derived.Lib.ConvBytes
import Derived.Laws.Slices
import Derived.WalkKit
import Derived.KernelRfl
import Derived.RowKit3
import Derived.Deep.LoopGhost
import Derived.Deep.QuietTactic
import Derived.BigQuiet
import Derived.WideLaws
import Derived.Deep.DeepCutAuto
import Derived.Deep.CutBlock
import Derived.Deep.RegionHeld3
import Derived.Laws.Rows
import Derived.Lib.AppendStr
import Derived.ArgAppend
import Derived.Laws.IdiomCopy
import Derived.OrdersHeld
import Derived.Laws.BitsLemmas
import Derived.RowKit
import Derived.Test.YtaokkkolbifdpaaGreatDoorMgLegendTexts0
set_option linter.unusedVariables false
set_option linter.unusedSimpArgs false
set_option maxHeartbeats 64000000
set_option maxRecDepth 100000
section
namespace Go.Proofs.YtaokkkolbifdpaaGreatDoor.Hand
open Go.RowKit Go.Proofs.YtaokkkolbifdpaaGreatDoorW
open PrintWords PrintLast PrintMore
def strings_Cut.f (s p : ByteArray) : Option (ByteArray × ByteArray × Bool) := if s.size < 4294967281 then some (lb (Lib.cut (bl s) (bl p)).1, lb (Lib.cut (bl s) (bl p)).2.1, (Lib.cut (bl s) (bl p)).2.2) else none
theorem strings_Cut.calls (a0 a1 : ByteArray) (r1 r2 : ByteArray) (r3 : Bool) (w : World) (hGMaxL : MaxL w) (h : strings_Cut.f a0 a1 = some (r1, r2, r3)) :
  Calls Tryz.prog 24 #[.string a0,.string a1] w fun e w' => e = .returned (.tuple #[.string r1,.string r2,.bool r3]) ∧ Below w.heap.size w w':=by
 unfold strings_Cut.f at h
 split at h
 ·
  rename_i hs
  cases h
  obtain ⟨m,hm⟩:=hGMaxL
  exact (Tryz.strings_Cut a0 a1 m w hs hm).mono fun e w' ⟨he,n,hw⟩ => ⟨he,by rw [hw];exact pw_below_drewN (Below.refl _ _) _⟩
 ·
  cases h
def strings_Contains.f (s p : ByteArray) : Option Bool := if s.size < 4294967281 then some (Lib.contains (bl s) (bl p)) else none
theorem strings_Contains.calls (a0 a1 : ByteArray) (r : Bool) (w : World) (hGMaxL : MaxL w) (h : strings_Contains.f a0 a1 = some r) :
  Calls Tryz.prog 19 #[.string a0,.string a1] w fun e w' => e = .returned (.bool r) ∧ Below w.heap.size w w':=by
 unfold strings_Contains.f at h
 split at h
 ·
  rename_i hs
  cases h
  obtain ⟨m,hm⟩:=hGMaxL
  exact (Tryz.strings_Contains a0 a1 m w hs hm).mono fun e w' ⟨he,hw⟩ => ⟨he,by rw [hw];exact Below.refl _ _⟩
 ·
  cases h
def strings_HasPrefix.f (s p : ByteArray) : Option Bool := some (Lib.hasPrefix (bl s) (bl p))
theorem strings_HasPrefix.calls (a0 a1 : ByteArray) (r : Bool) (w : World) (h : strings_HasPrefix.f a0 a1 = some r) :
  Calls Tryz.prog 20 #[.string a0,.string a1] w fun e w' => e = .returned (.bool r) ∧ Below w.heap.size w w':=by
 cases h
 exact (Tryz.strings_HasPrefix a0 a1 w).mono fun e w' ⟨he,hw⟩ => ⟨he,by rw [hw];exact Below.refl _ _⟩
def growRen : Go.Shelf.Ren := ⟨fun | 4 => 56 | n => n, fun | 20 => 20 | 22 => 45 | 25 => 9 | 9 => 9 | 3 => 3 | 4 => 4 | 0 => 0 | n => n, fun | n => n⟩
theorem growLays : Go.Proofs.Lays8.n4 Tryz.prog growRen := {
 mixed:=by kernel_rfl
 f4:=⟨Tryz.f56.name,by decide,Tryz.func56.trans (congrArg some (by kernel_rfl))⟩
 t0:=Tryz.underlying0
 a0:=Tryz.isAgg0
 z0:=Tryz.sizeOf0
 v0:=Tryz.zeroValue0
 t3:=Tryz.underlying3
 a3:=Tryz.isAgg3
 z3:=Tryz.sizeOf3
 v3:=Tryz.zeroValue3
 t4:=Tryz.underlying4
 a4:=Tryz.isAgg4
 z4:=Tryz.sizeOf4
 v4:=Tryz.zeroValue4
 t9:=Tryz.underlying9
 a9:=Tryz.isAgg9
 z9:=Tryz.sizeOf9
 v9:=Tryz.zeroValue9
 t20:=Tryz.underlying20
 a20:=Tryz.isAgg20
 z20:=Tryz.sizeOf20
 v20:=Tryz.zeroValue20
 t22:=Tryz.underlying45
 a22:=Tryz.isAgg45
 z22:=Tryz.sizeOf45
 v22:=Tryz.zeroValue45 }
theorem grow_str (n : Nat) (w : World) (hn : n ≤ 1048576) :
  Calls Tryz.prog 56 #[.slice none 0 0,.int .i64 (n : Int)] w fun e w' => ∃ v,e = .returned v ∧ Kd.R Kd.string 9 w' w.heap.size (fun _ => True) v [] ∧ Below w.heap.size w w':=by
 by_cases h0 : n = 0
 ·
  subst h0
  exact (Any8.slices_Grow_room growLays none 0 0 0 w (Nat.le_refl _) (by decide) (by decide) (Nat.le_refl _)).mono fun e w' ⟨he,hw⟩ => ⟨_,he,Kd.R_nil _ _ _ _ _,by rw [hw];exact Below.refl _ _⟩
 ·
  obtain ⟨i0,hi,hz0,hz1,hz2⟩:=info_parts lines_info
  have hh:=Any8.slices_Grow_grow growLays i0 (.string ⟨#[]⟩) hi hz0 (by rw [hz1];decide) none 0 0 n [] w (Nat.le_refl _) (by omega) (by rw [hz2];omega) (by omega) (by simp) (fun _ => rfl) (fun a h => by cases h)
  refine hh.mono fun e w' ⟨he,hw⟩ => ⟨_,he,?_,?_⟩
  ·
   have hg:=grownCap_ge w (0 + n) 0 (growRen.t 25)
   have hgm:=grownCap_le_maxLen w (0 + n) 0 (growRen.t 25) (by unfold maxLen;omega)
   refine Kd.R_of_own ⟨rfl,.inr ⟨w.heap.size,_,_,rfl,Nat.le_refl _,by rw [hw];exact World.alloc_heap_new w.drew _,Nat.zero_le _,hgm,?_,by simp [encs]⟩⟩ (fun _ _ => trivial)
   simp [Builtin.zeroCells,Value.cells]
   rw [Nat.zero_add] at hg
   omega
  ·
   rw [hw]
   exact below_alloc (below_drew1 (Below.refl _ _)) _
theorem at_rows {w : World} {A : Option Addr} {n : Nat} {ls : List (List ByteArray)} (h : Kd.C (Kd.slice 9 Kd.string) w A n ls) {i : Nat} (hi : i < ls.length) : ∃ ad B c, A = some ad ∧ w.cell? (ad.add i) = some (.slice B ls[i].length c) ∧ Kd.C Kd.string w B ls[i].length ls[i] := by
 obtain ⟨ad,hA,hc⟩:=h.2.2 (by have:=h.1;omega)
 obtain ⟨cs,_,⟨B,c,rfl,_,hC⟩,hcell⟩:=hc i ls[i] (List.getElem?_eq_getElem hi)
 refine ⟨ad,B,c,hA,?_,hC⟩
 have:=hcell 0 _ rfl
 rwa [Nat.add_zero,show i * (Kd.slice 9 Kd.string).sz = i from Nat.mul_one i] at this
theorem flat_take (ls : List (List ByteArray)) (i : Nat) (hi : i < ls.length) : (ls.take (i + 1)).flatten = (ls.take i).flatten ++ ls[i] := by
 rw [List.take_succ_eq_append_getElem hi,List.flatten_append]
 simp
theorem flat_le (ls : List (List ByteArray)) (i : Nat) : (ls.take i).flatten.length ≤ ls.flatten.length := by
 conv => rhs;rw [← List.take_append_drop i ls,List.flatten_append,List.length_append]
 omega
theorem concat_str (A : Option Addr) (c : Nat) (ls : List (List ByteArray)) (w : World) (hC : Kd.C (Kd.slice 9 Kd.string) w A ls.length ls) (hc : ls.length ≤ c) (hl : ls.flatten.length ≤ 1048576) :
  Calls Tryz.prog 27 #[.slice A ls.length c] w fun e w' => ∃ v,e = .returned v ∧ Kd.R Kd.string 9 w' w.heap.size (fun _ => True) v ls.flatten ∧ Below w.heap.size w w':=by
 have HC:=aq hC
 have hmx:=hC.2.1
 have HL:=aq hl
 clear hC hl
 go_enter Tryz.func27,Tryz.ntmps27
 go_wp2_with fail
 go_loopg [3,11] ls.length (fun kq v3 v11 wr => ∃ i : Nat,v11 = .int .i64 (i : Int) ∧ v3 = .int .i64 (((ls.take i).flatten.length : Nat) : Int) ∧ i + kq = ls.length ∧ wr = w)
 case atStart => exact ⟨0,rfl,rfl,by omega,rfl⟩
 case round =>
  obtain ⟨i,rfl,rfl,hi,rfl⟩:=hrel
  by_cases hlt : i < ls.length
  ·
   obtain ⟨ad,B,c',rfl,hcell,hCi⟩:=at_rows HC.out hlt
   have hd : decide ((i : Int) < (ls.length : Int)) = true:=decide_eq_true (by omega)
   have hn : (ls.take (i + 1)).flatten.length = (ls.take i).flatten.length + ls[i].length:=by rw [flat_take ls i hlt,List.length_append]
   have hb:=flat_le ls (i + 1)
   have hb2:=HL.out
   obtain ⟨m,hm⟩ : ∃ m,m = (ls.take i).flatten.length:=⟨_,rfl⟩
   obtain ⟨k,hk⟩ : ∃ k,k = ls[i].length:=⟨_,rfl⟩
   rw [← hm,← hk] at hn
   rw [← hm]
   rw [← hk] at hcell
   have hmk : m + k ≤ 1048576:=by omega
   have HN : Aside0 ((ls.take (i + 1)).flatten.length = m + k):=⟨hn⟩
   have q1 : (0 : Int) ≤ (m : Int):=by omega
   have q2 : (m : Int) + (k : Int) ≤ 1048576:=by omega
   have q3 : (0 : Int) ≤ (m : Int) + (k : Int):=by omega
   have q4 : ¬ ((m : Int) + (k : Int) < 0):=by omega
   have q5 : decide ((m : Int) + (k : Int) < 0) = false:=decide_eq_false (by omega)
   clear hb hb2 hn hm hk hCi
   go_wp2_with fail
   go_roundg (gk - 1)
   case measure => omega
   case rel => exact ⟨i + 1,by simp,by rw [HN.out];first|rfl|simp|(push_cast;rfl),by omega,rfl⟩
  ·
   have hd : decide ((i : Int) < (ls.length : Int)) = false:=decide_eq_false (by omega)
   obtain ⟨wo,rfl⟩ : ∃ wo : World,wo = wr:=⟨_,rfl⟩
   have ht : (ls.take i).flatten = ls.flatten:=by rw [List.take_of_length_le (by omega)]
   rw [ht]
   have HG:=aq (grow_str ls.flatten.length wo HL.out)
   obtain ⟨N,hN⟩ : ∃ N,N = ls.flatten.length:=⟨_,rfl⟩
   rw [← hN] at HG ⊢
   clear ht hN
   go_wp2_with fail
   refine HG.out.mono ?_
   rintro e w1 ⟨v,rfl,hR,hB⟩
   have HR1:=aq hR
   have HB1:=aq hB
   clear hR hB
   go_wp2_with fail
   go_loopg [6,27] ls.length (fun kq v6 v27 W2 => ∃ i : Nat,v27 = .int .i64 (i : Int) ∧ i + kq = ls.length ∧ Aside0 (Kd.R Kd.string 9 W2 wo.heap.size (fun _ => True) v6 (ls.take i).flatten) ∧ Aside0 (Below wo.heap.size wo W2))
   case atStart => exact ⟨0,rfl,by omega,HR1,HB1⟩
   case round =>
    obtain ⟨j,rfl,hj,HO,HB⟩:=hrel
    by_cases hlt2 : j < ls.length
    ·
     obtain ⟨ad,B,c',hA,hcell,hCi⟩:=at_rows (Kd.C_below HC.out HB.out) hlt2
     subst hA
     have hd2 : decide ((j : Int) < (ls.length : Int)) = true:=decide_eq_true (by omega)
     have HF : Aside0 ((ls.take (j + 1)).flatten = (ls.take j).flatten ++ ls[j]):=⟨flat_take ls j hlt2⟩
     have HN : Aside0 (((ls.take j).flatten.length + ls[j].length) * 16 ≤ 140737488355328):=⟨by
      have h1:=flat_le ls (j + 1)
      rw [flat_take ls j hlt2,List.length_append] at h1
      have:=HL.out
      omega⟩
     obtain ⟨x,hx⟩ : ∃ x,ls[j] = x:=⟨_,rfl⟩
     rw [hx] at hcell hCi HF HN
     have HCi:=aq hCi
     have HS:=aq HB.out.size
     clear hx hCi hd
     go_wp2_with (at_builtin;refine Kd.R_append_rows Kd.string (w0:=wr) wo.heap.size rfl (.tmp 31) (.tmp 32) 45 9 (.string ⟨#[]⟩) 16 rfl Tryz.underlying45 lines_info rfl (by decide) (by omega) u6 (ls.take j).flatten x _ _ _ (fun _ => True) (fun _ => False) rfl rfl ?aO ?aR (fun _ _ h => h) (fun _ h => h.elim) ?aF ?aB ?aS ?aL ?_;(case aR => exact HCi.out);(case aB => exact Below.refl _ _);(case aF => exact (fun _ _ => trivial));(case aO => exact HO.out);(case aS => exact HS.out);(case aL => exact HN.out);intro v1 w3 hR8 hB8 hg8 hat8)
     rw [← HF.out] at hR8
     have HR8:=aq hR8
     have HB8:=aq (HB.out.trans hB8)
     clear hR8 hB8 hg8 hat8
     go_wp2
     go_roundg (gk - 1)
     case measure => omega
     case rel => exact ⟨j + 1,by simp,by omega,HR8,HB8⟩
    ·
     have hd2 : decide ((j : Int) < (ls.length : Int)) = false:=decide_eq_false (by omega)
     have HOe : Aside0 (Kd.R Kd.string 9 wr wo.heap.size (fun _ => True) u6 ls.flatten):=⟨by have:=HO.out;rw [List.take_of_length_le (by omega)] at this;exact this⟩
     go_wp2
     refine bodyPost_ret (results_tmp rfl _ _ _) rfl ⟨u6,rfl,HOe.out,HB.out⟩
theorem bl_extract (s : ByteArray) (a b : Nat) : bl (s.extract a b) = ((bl s).take b).drop a := by
 unfold bl
 rw [ByteArray.data_extract]
 simp only [Array.toList_extract,List.extract_eq_drop_take']
theorem cut_ext (s : ByteArray) (a b : Nat) (h : a ≤ b) : s.extract a b = lb (((bl s).drop a).take (b - a)) := by
 apply bl_inj
 rw [bl_extract,bl_lb,List.drop_take]
theorem cur_next (s : ByteArray) (a i : Nat) (b : UInt8) (h : a ≤ i) (hi : (bl s)[i]? = some b) : ((bl s).drop a).take (i - a) ++ [b] = ((bl s).drop a).take (i + 1 - a) := by
 have e : i + 1 - a = (i - a) + 1:=by omega
 rw [e,List.take_add_one,List.getElem?_drop,show a + (i - a) = i from by omega,hi]
 rfl
def mapL (t : List (List UInt8) × Int × Int) : List ByteArray × Int × Int := (t.1.map lb, t.2)
theorem seen_bt {b : UInt8} {x : Int} (h : x = (b.toNat : Int)) : seen b = (!decide (x < 32) && !decide (x > 126)) := by
 unfold seen
 rw [Bool.eq_iff_iff]
 simp
 omega
theorem u8_is {b c : UInt8} {x : Int} (h : x = (b.toNat : Int)) : x = (c.toNat : Int) ↔ b = c := by
 constructor
 ·
  intro e
  apply UInt8.toNat.inj
  omega
 ·
  rintro rfl;exact h
theorem u8_is10 {b : UInt8} {x : Int} (h : x = (b.toNat : Int)) : x = 10 ↔ b = 10 := u8_is (c := 10) h
theorem u8_is32 {b : UInt8} {x : Int} (h : x = (b.toNat : Int)) : x = 32 ↔ b = 32 := u8_is (c := 32) h
end Go.Proofs.YtaokkkolbifdpaaGreatDoor.Hand
end

section
namespace Go.Proofs.YtaokkkolbifdpaaGreatDoor.Q9
open Go.RowKit Go.Proofs.YtaokkkolbifdpaaGreatDoorW
open PrintWords PrintLast PrintMore
attribute [local go_sem] max2_int min2_int max_two min_two max_three min_three max_four min_four
def errW : Option Int → Value
  | none => .nilIface
  | some c => .iface 0 (.int .i64 c)
theorem errW_none : errW none = .nilIface := rfl
theorem errW_some (c : Int) : errW (some c) = .iface 0 (.int .i64 c) := rfl
theorem info9 : (Tryz.prog.info? 9).map (fun i => (i.zero, i.size, i.bytes)) = some (some (.string ⟨#[]⟩), 1, 16) := by kernel_rfl
def sr04_Lines.l0 : Nat → ByteArray → List ByteArray → Int → Int → Option (List ByteArray × Int × Int)
  | 0,_,_,_,_ => none
  | k + 1,x0,x4,x5,x6 => if x6 < (x0.size : Int) then (if 0 ≤ x6 then (if (bt x0 x6) = 10 then (if 0 ≤ x5 then (if x5 ≤ x6 then (if x6 ≤ (x0.size : Int) then (if x4.length < 8796093022208 then (sr04_Lines.l0 k x0 (x4 ++ [x0.extract (x5 : Int).toNat (x6 : Int).toNat]) (wrap64 (x6 + 1)) (wrap64 (x6 + 1))) else (none)) else (none)) else (none)) else (none)) else (if (bt x0 x6) < 32 then (some (([] : List ByteArray),1,wrap64 ((x4.length : Int) + 1))) else (if (bt x0 x6) > 126 then (some (([] : List ByteArray),1,wrap64 ((x4.length : Int) + 1))) else (sr04_Lines.l0 k x0 x4 x5 (wrap64 (x6 + 1)))))) else (none)) else (if x5 < (x0.size : Int) then (some (([] : List ByteArray),1,wrap64 ((x4.length : Int) + 1))) else (some (x4,0,0)))
def sr04_Lines.f (k : Nat) (a0 : ByteArray) : Option (List ByteArray × Int × Int) := if (a0.size : Int) > 65536 then (some (([] : List ByteArray), 3, 0)) else (sr04_Lines.l0 k a0 ([] : List ByteArray) 0 0)
theorem sr04_Lines.calls (k : Nat) (a0 : ByteArray) (r1 : List ByteArray) (r2 : Int) (r3 : Int) (w : World) (h : sr04_Lines.f k a0 = some (r1, r2, r3)) :
    Calls Tryz.prog 33 #[.string a0] w fun e w' => ∃ v0_ : Value,e = .returned (.tuple #[v0_,.agg #[.int .i64 r2,.int .i64 r3]]) ∧ Kd.R Kd.string 9 w' w.heap.size (fun _ => True) v0_ r1 ∧ Below w.heap.size w w':=by
 have hu40:=Tryz.underlying40
 have HB:=aq (Below.refl w.heap.size w)
 have H : (if (a0.size : Int) > 65536 then (some (([] : List ByteArray),3,0)) else (sr04_Lines.l0 k a0 ([] : List ByteArray) 0 0)) = some (r1,r2,r3):=h
 clear h
 by_cases c2 : (a0.size : Int) > 65536
 · rw [if_pos c2] at H
   have c2b0 : decide (65536 < (a0.size : Int)) = true:=decide_eq_true c2
   have c2b1 : decide (65536 < a0.size) = true:=decide_eq_true (by omega)
   clear c2
   simp only [Option.some.injEq,Prod.mk.injEq] at H
   obtain ⟨rfl,rfl,rfl⟩:=H
   go_enter Tryz.func33,Tryz.ntmps33
   go_wp2_with (first|((with_reducible refine gate_dst (N:=3) rfl ?_);refine box_event rfl (N:=3) rfl (cs:=#[.int .i64 0,.int .i64 0]) (t:=40) gS ?_;intro gb101 hg w3 hbox hb;have BK101:=aq (hbox);have GE101:=aq ((GN hg : w.heap.size ≤ gb101));replace HB:=aq (below_step bH hb);clear hb hbox hg;have hcz4_0 : w3.cell? ⟨gb101,0,none⟩ = some (.int .i64 0):=(blk_cell BK101.out 0).trans rfl;have hcz4_1 : w3.cell? ⟨gb101,1,none⟩ = some (.int .i64 0):=(blk_cell BK101.out 1).trans rfl;have hfz4_0:=blk_frozen BK101.out 0;have hfz4_1:=blk_frozen BK101.out 1))
   refine bodyPost_ret (results_tc rfl _ _ gb101 40 #[.int .i64 3,.int .i64 0] (0,0) _ rfl (by refine KU ?_;refine blk_put (cs:=#[.int .i64 3,.int .i64 0]) ?_ 1 _ rfl;refine KU ?_;refine blk_put (cs:=#[.int .i64 0,.int .i64 0]) ?_ 0 _ rfl;refine KU ?_;exact BK101.out) Tryz.underlying40 rfl (by kernel_rfl)) rfl ?_
   exact ⟨_,eR,by first|exact Kd.R_nil _ _ _ _ _|exact Kd.N_nil _ _ _ _ _|exact Kd.V_nil _ _ _ _ _|exact Kd.Q_nil _ _ _ _ _|exact Kd.S_nil _ _ _ _ _,bH⟩
 rw [if_neg c2] at H
 have c2b0 : decide (65536 < (a0.size : Int)) = false:=decide_eq_false c2
 have c2b1 : decide (65536 < a0.size) = false:=decide_eq_false (by omega)
 clear c2
 have H':=aq H
 clear H
 go_enter Tryz.func33,Tryz.ntmps33
 go_wp2_with (first|((with_reducible refine gate_dst (N:=3) rfl ?_);refine box_event rfl (N:=3) rfl (cs:=#[.int .i64 0,.int .i64 0]) (t:=40) gS ?_;intro gb101 hg w5 hbox hb;have BK101:=aq (hbox);have GE101:=aq ((GN hg : w.heap.size ≤ gb101));replace HB:=aq (below_step bH hb);clear hb hbox hg))
 go_loopg [4,5,6] k (fun kq v4 v5 v6 w' => ∃ (x4_1 : List ByteArray) (x5_1 : Int) (x6_1 : Int) (x102000_1 : Int) (x102001_1 : Int),v5 = .int .i64 x5_1 ∧ v6 = .int .i64 x6_1 ∧ Aside0 (sr04_Lines.l0 kq a0 x4_1 x5_1 x6_1 = some (r1,r2,r3)) ∧ Aside0 (kq ≤ k) ∧ Aside0 (Kd.R Kd.string 9 w' w.heap.size (fun _ => True) v4 x4_1) ∧ Aside0 (w'.heap[gb101]? = some (.cells #[.int .i64 x102000_1,.int .i64 x102001_1] 40 (0,0))) ∧ Aside0 (Below w.heap.size w w'))
 case atStart => exact ⟨(([] : List ByteArray)),(0),(0),(0),(0),eS,eS,H',⟨Nat.le_refl _⟩,⟨by first|exact Kd.R_nil _ _ _ _ _|exact Kd.N_nil _ _ _ _ _|exact Kd.V_nil _ _ _ _ _|exact Kd.Q_nil _ _ _ _ _|exact Kd.S_nil _ _ _ _ _⟩,⟨KU BK101.out⟩,⟨bH⟩⟩
 case round =>
 clear H'
 (try clear c2);(try clear c2b0);(try clear c2b1)
 obtain ⟨x4_1,x5_1,x6_1,x102000_1,x102001_1,rfl,rfl,HA,HK1,HO_4,BK101,HB⟩:=hrel
 cases gk with
 | zero => exact absurd HA.out (by simp [sr04_Lines.l0])
 | succ k1 =>
 have H:=HA.out
 clear HA
 simp only [sr04_Lines.l0] at H
 by_cases c6 : x6_1 < (a0.size : Int)
 rotate_left
 · rw [if_neg c6] at H
   have c6b0 : decide (x6_1 < (a0.size : Int)) = false:=decide_eq_false c6
   clear c6
   by_cases c23 : x5_1 < (a0.size : Int)
   rotate_left
   · rw [if_neg c23] at H
     have c23b0 : decide (x5_1 < (a0.size : Int)) = false:=decide_eq_false c23
     clear c23
     simp only [Option.some.injEq,Prod.mk.injEq] at H
     obtain ⟨rfl,rfl,rfl⟩:=H
     have hcz26_0 : wr.cell? ⟨gb101,0,none⟩ = some (.int .i64 x102000_1):=(blk_cell BK101.out 0).trans rfl
     have hcz26_1 : wr.cell? ⟨gb101,1,none⟩ = some (.int .i64 x102001_1):=(blk_cell BK101.out 1).trans rfl
     have hfz26_0:=blk_frozen BK101.out 0
     have hfz26_1:=blk_frozen BK101.out 1
     go_wp2
     refine bodyPost_ret (results_tc rfl _ _ gb101 40 #[.int .i64 0,.int .i64 0] (0,0) _ rfl (by refine KU ?_;refine blk_put (cs:=#[.int .i64 0,.int .i64 x102001_1]) ?_ 1 _ rfl;refine KU ?_;refine blk_put (cs:=#[.int .i64 x102000_1,.int .i64 x102001_1]) ?_ 0 _ rfl;refine KU ?_;exact BK101.out) Tryz.underlying40 rfl (by kernel_rfl)) rfl ?_
     exact ⟨_,eR,by (with_reducible repeat (first|apply Kd.R_alloc|apply Kd.R_drewN|apply Kd.R_drew));exact Kd.R_mono (RF gb101 1 (RF gb101 0 (Kd.R_types HO_4.out BK101.out (by decide)) (.int .i64 0)) (.int .i64 0)) (fun _ hk => trivial),bH⟩
   rw [if_pos c23] at H
   have c23b0 : decide (x5_1 < (a0.size : Int)) = true:=decide_eq_true c23
   clear c23
   simp only [Option.some.injEq,Prod.mk.injEq] at H
   obtain ⟨rfl,rfl,rfl⟩:=H
   obtain ⟨Ao24,co24,eo24⟩:=Kd.R_slice HO_4.out
   subst eo24
   have hcz25_0 : wr.cell? ⟨gb101,0,none⟩ = some (.int .i64 x102000_1):=(blk_cell BK101.out 0).trans rfl
   have hcz25_1 : wr.cell? ⟨gb101,1,none⟩ = some (.int .i64 x102001_1):=(blk_cell BK101.out 1).trans rfl
   have hfz25_0:=blk_frozen BK101.out 0
   have hfz25_1:=blk_frozen BK101.out 1
   go_wp2
   refine bodyPost_ret (results_tc rfl _ _ gb101 40 #[.int .i64 1,.int .i64 (wrap64 ((x4_1.length : Int) + 1))] (0,0) _ rfl (by refine KU ?_;refine blk_put (cs:=#[.int .i64 1,.int .i64 x102001_1]) ?_ 1 _ rfl;refine KU ?_;refine blk_put (cs:=#[.int .i64 x102000_1,.int .i64 x102001_1]) ?_ 0 _ rfl;refine KU ?_;exact BK101.out) Tryz.underlying40 rfl (by kernel_rfl)) rfl ?_
   exact ⟨_,eR,by first|exact Kd.R_nil _ _ _ _ _|exact Kd.N_nil _ _ _ _ _|exact Kd.V_nil _ _ _ _ _|exact Kd.Q_nil _ _ _ _ _|exact Kd.S_nil _ _ _ _ _,bH⟩
 rw [if_pos c6] at H
 have c6b0 : decide (x6_1 < (a0.size : Int)) = true:=decide_eq_true c6
 clear c6
 by_cases c7 : 0 ≤ x6_1
 rotate_left
 · rw [if_neg c7] at H
   exact absurd H (by simp)
 rw [if_pos c7] at H
 have c7b0 : decide (0 ≤ x6_1) = true:=decide_eq_true c7
 clear c7
 by_cases c9 : (bt a0 x6_1) = 10
 · rw [if_pos c9] at H
   have c9b0 : ((bt a0 x6_1) == 10) = true:=beq_iff_eq.mpr c9
   have c9b1 : ((bt a0 x6_1) != 10) = false:=bne_eq_false_iff_eq.mpr c9
   clear c9
   by_cases c10 : 0 ≤ x5_1
   rotate_left
   · rw [if_neg c10] at H
     exact absurd H (by simp)
   rw [if_pos c10] at H
   have c10b0:=eq_true c10
   have c10b1 : decide (0 ≤ x5_1) = true:=decide_eq_true c10
   clear c10
   by_cases c11 : x5_1 ≤ x6_1
   rotate_left
   · rw [if_neg c11] at H
     exact absurd H (by simp)
   rw [if_pos c11] at H
   have c11b0:=eq_true c11
   have c11b1 : decide (x5_1 ≤ x6_1) = true:=decide_eq_true c11
   clear c11
   by_cases c12 : x6_1 ≤ (a0.size : Int)
   rotate_left
   · rw [if_neg c12] at H
     exact absurd H (by simp)
   rw [if_pos c12] at H
   have c12b0:=eq_true c12
   have c12b1 : decide (x6_1 ≤ (a0.size : Int)) = true:=decide_eq_true c12
   clear c12
   by_cases c13 : x4_1.length < 8796093022208
   rotate_left
   · rw [if_neg c13] at H
     exact absurd H (by simp)
   rw [if_pos c13] at H
   have LMc13:=aq c13
   clear c13
   obtain ⟨y102,hy102⟩ : ∃ y_ : List ByteArray,y_ = (x4_1 ++ [a0.extract (x5_1 : Int).toNat (x6_1 : Int).toNat]):=⟨_,rfl⟩
   replace H : (sr04_Lines.l0 k1 a0 y102 (wrap64 (x6_1 + 1)) (wrap64 (x6_1 + 1))) = some (r1,r2,r3):=by first|(rw [hy102];with_reducible exact H)|(have H2_:=(Option.bind_some _ _).symm.trans H;rw [hy102];with_reducible exact H2_)|(have H2_:=(Option.bind_some _ _).symm.trans H;with_reducible exact H2_)|with_reducible exact H|(rw [hy102];exact H)|exact H
   have Ny102:=aq hy102
   clear hy102
   have H':=aq H
   clear H
   have p8 : 0 ≤ (x6_1 : Int):=of_decide_eq_true aS
   have q8 : x6_1 < (a0.size : Int):=of_decide_eq_true aS
   have hx8:=bt_at a0 x6_1
   replace p8:=eq_true p8
   replace q8:=eq_true q8
   go_wp2_with (first|((with_reducible refine gate_builtin (b:=.append) (xs:=#[.tmp 21,.tmp 26]) rfl ?_);at_builtin;refine Kd.R_append Kd.string (w0:=w) w.heap.size rfl (.tmp 21) (.tmp 26) 45 9 (.string ⟨#[]⟩) 16 rfl Tryz.underlying45 info9 rfl (by decide) (by omega) u4 x4_1 (a0.extract (x5_1 : Int).toNat (x6_1 : Int).toNat) [.string (a0.extract (x5_1 : Int).toNat (x6_1 : Int).toNat)] (fun _ => True) (fun _ => False) rfl rfl ?aP (fun _ hk => hk.elim) ?aF ?aO ?aB ?aS ?aL ?_;(case aP => exact rfl);(case aB => exact bH);(case aF => exact (fun _ _ => trivial));(case aO => exact (RU HO_4.out));(case aS => exact (below_size bH));(case aL => have:=LMc13.out;omega);intro v103 w14 ho hb hg hat;rw [← Ny102.out] at ho;have n0_:=aq (blk_grown (g:=gb101) (o:=.cells #[.int .i64 x102000_1,.int .i64 x102001_1] 40 (0,0)) (KU BK101.out) hg (Kd.R_ne HO_4.out BK101.out (by decide)));have n1_:=aq (hb);have n2_:=aq (ho);clear BK101;clear HB;clear HO_4;have BK101:=n0_;have HB:=n1_;have HO104:=n2_;clear n0_ n1_ n2_;clear ho hb hg hat))
   go_roundg k1
   case measure => have:=HK1.out;omega
   case rel => exact ⟨(y102),(wrap64 (x6_1 + 1)),(wrap64 (x6_1 + 1)),(x102000_1),(x102001_1),eS,eS,H',⟨by have:=HK1.out;omega⟩,⟨by (with_reducible repeat (first|apply Kd.R_alloc|apply Kd.R_drewN|apply Kd.R_drew));exact HO104.out⟩,⟨KU BK101.out⟩,⟨bH⟩⟩
 rw [if_neg c9] at H
 have c9b0 : ((bt a0 x6_1) == 10) = false:=beq_eq_false_iff_ne.mpr c9
 have c9b1 : ((bt a0 x6_1) != 10) = true:=bne_iff_ne.mpr c9
 by_cases c16 : (bt a0 x6_1) < 32
 · rw [if_pos c16] at H
   have c16b0 : decide ((bt a0 x6_1) < 32) = true:=decide_eq_true c16
   clear c16
   simp only [Option.some.injEq,Prod.mk.injEq] at H
   obtain ⟨rfl,rfl,rfl⟩:=H
   have p8 : 0 ≤ (x6_1 : Int):=of_decide_eq_true aS
   have q8 : x6_1 < (a0.size : Int):=of_decide_eq_true aS
   have hx8:=bt_at a0 x6_1
   replace p8:=eq_true p8
   replace q8:=eq_true q8
   have p15 : 0 ≤ (x6_1 : Int):=of_decide_eq_true aS
   have q15 : x6_1 < (a0.size : Int):=of_decide_eq_true aS
   have hx15:=bt_at a0 x6_1
   replace p15:=eq_true p15
   replace q15:=eq_true q15
   obtain ⟨Ao17,co17,eo17⟩:=Kd.R_slice HO_4.out
   subst eo17
   have hcz18_0 : wr.cell? ⟨gb101,0,none⟩ = some (.int .i64 x102000_1):=(blk_cell BK101.out 0).trans rfl
   have hcz18_1 : wr.cell? ⟨gb101,1,none⟩ = some (.int .i64 x102001_1):=(blk_cell BK101.out 1).trans rfl
   have hfz18_0:=blk_frozen BK101.out 0
   have hfz18_1:=blk_frozen BK101.out 1
   go_wp2
   refine bodyPost_ret (results_tc rfl _ _ gb101 40 #[.int .i64 1,.int .i64 (wrap64 ((x4_1.length : Int) + 1))] (0,0) _ rfl (by refine KU ?_;refine blk_put (cs:=#[.int .i64 1,.int .i64 x102001_1]) ?_ 1 _ rfl;refine KU ?_;refine blk_put (cs:=#[.int .i64 x102000_1,.int .i64 x102001_1]) ?_ 0 _ rfl;refine KU ?_;exact BK101.out) Tryz.underlying40 rfl (by kernel_rfl)) rfl ?_
   exact ⟨_,eR,by first|exact Kd.R_nil _ _ _ _ _|exact Kd.N_nil _ _ _ _ _|exact Kd.V_nil _ _ _ _ _|exact Kd.Q_nil _ _ _ _ _|exact Kd.S_nil _ _ _ _ _,bH⟩
 rw [if_neg c16] at H
 have c16b0 : decide ((bt a0 x6_1) < 32) = false:=decide_eq_false c16
 clear c16
 by_cases c20 : (bt a0 x6_1) > 126
 rotate_left
 · rw [if_neg c20] at H
   have c20b0 : decide (126 < (bt a0 x6_1)) = false:=decide_eq_false c20
   clear c20
   have H':=aq H
   clear H
   have p8 : 0 ≤ (x6_1 : Int):=of_decide_eq_true aS
   have q8 : x6_1 < (a0.size : Int):=of_decide_eq_true aS
   have hx8:=bt_at a0 x6_1
   replace p8:=eq_true p8
   replace q8:=eq_true q8
   have p15 : 0 ≤ (x6_1 : Int):=of_decide_eq_true aS
   have q15 : x6_1 < (a0.size : Int):=of_decide_eq_true aS
   have hx15:=bt_at a0 x6_1
   replace p15:=eq_true p15
   replace q15:=eq_true q15
   have p19 : 0 ≤ (x6_1 : Int):=of_decide_eq_true aS
   have q19 : x6_1 < (a0.size : Int):=of_decide_eq_true aS
   have hx19:=bt_at a0 x6_1
   replace p19:=eq_true p19
   replace q19:=eq_true q19
   go_wp2
   go_roundg k1
   case measure => have:=HK1.out;omega
   case rel => exact ⟨(x4_1),(x5_1),(wrap64 (x6_1 + 1)),(x102000_1),(x102001_1),eS,eS,H',⟨by have:=HK1.out;omega⟩,⟨by (with_reducible repeat (first|apply Kd.R_alloc|apply Kd.R_drewN|apply Kd.R_drew));exact HO_4.out⟩,⟨KU BK101.out⟩,⟨bH⟩⟩
 rw [if_pos c20] at H
 have c20b0 : decide (126 < (bt a0 x6_1)) = true:=decide_eq_true c20
 clear c20
 simp only [Option.some.injEq,Prod.mk.injEq] at H
 obtain ⟨rfl,rfl,rfl⟩:=H
 have p8 : 0 ≤ (x6_1 : Int):=of_decide_eq_true aS
 have q8 : x6_1 < (a0.size : Int):=of_decide_eq_true aS
 have hx8:=bt_at a0 x6_1
 replace p8:=eq_true p8
 replace q8:=eq_true q8
 have p15 : 0 ≤ (x6_1 : Int):=of_decide_eq_true aS
 have q15 : x6_1 < (a0.size : Int):=of_decide_eq_true aS
 have hx15:=bt_at a0 x6_1
 replace p15:=eq_true p15
 replace q15:=eq_true q15
 have p19 : 0 ≤ (x6_1 : Int):=of_decide_eq_true aS
 have q19 : x6_1 < (a0.size : Int):=of_decide_eq_true aS
 have hx19:=bt_at a0 x6_1
 replace p19:=eq_true p19
 replace q19:=eq_true q19
 obtain ⟨Ao21,co21,eo21⟩:=Kd.R_slice HO_4.out
 subst eo21
 have hcz22_0 : wr.cell? ⟨gb101,0,none⟩ = some (.int .i64 x102000_1):=(blk_cell BK101.out 0).trans rfl
 have hcz22_1 : wr.cell? ⟨gb101,1,none⟩ = some (.int .i64 x102001_1):=(blk_cell BK101.out 1).trans rfl
 have hfz22_0:=blk_frozen BK101.out 0
 have hfz22_1:=blk_frozen BK101.out 1
 go_wp2
 refine bodyPost_ret (results_tc rfl _ _ gb101 40 #[.int .i64 1,.int .i64 (wrap64 ((x4_1.length : Int) + 1))] (0,0) _ rfl (by refine KU ?_;refine blk_put (cs:=#[.int .i64 1,.int .i64 x102001_1]) ?_ 1 _ rfl;refine KU ?_;refine blk_put (cs:=#[.int .i64 x102000_1,.int .i64 x102001_1]) ?_ 0 _ rfl;refine KU ?_;exact BK101.out) Tryz.underlying40 rfl (by kernel_rfl)) rfl ?_
 exact ⟨_,eR,by first|exact Kd.R_nil _ _ _ _ _|exact Kd.N_nil _ _ _ _ _|exact Kd.V_nil _ _ _ _ _|exact Kd.Q_nil _ _ _ _ _|exact Kd.S_nil _ _ _ _ _,bH⟩
def sr04_Fields.l0 : Nat → ByteArray → List ByteArray → Int → Int → Option (List ByteArray)
  | 0,_,_,_,_ => none
  | k + 1,x0,x3,x4,x5 => if x5 < (x0.size : Int) then (if 0 ≤ x5 then (if (bt x0 x5) = 32 then (if 0 ≤ x4 then (if x4 ≤ x5 then (if x5 ≤ (x0.size : Int) then (if x3.length < 8796093022208 then (sr04_Fields.l0 k x0 (x3 ++ [x0.extract (x4 : Int).toNat (x5 : Int).toNat]) (wrap64 (x5 + 1)) (wrap64 (x5 + 1))) else (none)) else (none)) else (none)) else (none)) else (sr04_Fields.l0 k x0 x3 x4 (wrap64 (x5 + 1)))) else (none)) else (if 0 ≤ x4 then (if x4 ≤ (x0.size : Int) then (if x3.length < 8796093022208 then (some (x3 ++ [x0.extract (x4 : Int).toNat x0.size])) else (none)) else (none)) else (none))
def sr04_Fields.f (k : Nat) (a0 : ByteArray) : Option (List ByteArray) := sr04_Fields.l0 k a0 ([] : List ByteArray) 0 0
theorem sr04_Fields.calls (k : Nat) (a0 : ByteArray) (r : List ByteArray) (w : World) (h : sr04_Fields.f k a0 = some r) :
    Calls Tryz.prog 21 #[.string a0] w fun e w' => ∃ v0_ : Value,e = .returned (v0_) ∧ Kd.R Kd.string 9 w' w.heap.size (fun _ => True) v0_ r ∧ Below w.heap.size w w':=by
 have HB:=aq (Below.refl w.heap.size w)
 have H : (sr04_Fields.l0 k a0 ([] : List ByteArray) 0 0) = some r:=h
 clear h
 have H':=aq H
 clear H
 go_enter Tryz.func21,Tryz.ntmps21
 go_wp2
 go_loopg [3,4,5] k (fun kq v3 v4 v5 w' => ∃ (x3_1 : List ByteArray) (x4_1 : Int) (x5_1 : Int),v4 = .int .i64 x4_1 ∧ v5 = .int .i64 x5_1 ∧ Aside0 (sr04_Fields.l0 kq a0 x3_1 x4_1 x5_1 = some r) ∧ Aside0 (kq ≤ k) ∧ Aside0 (Kd.R Kd.string 9 w' w.heap.size (fun _ => True) v3 x3_1) ∧ Aside0 (Below w.heap.size w w'))
 case atStart => exact ⟨(([] : List ByteArray)),(0),(0),eS,eS,H',⟨Nat.le_refl _⟩,⟨by first|exact Kd.R_nil _ _ _ _ _|exact Kd.N_nil _ _ _ _ _|exact Kd.V_nil _ _ _ _ _|exact Kd.Q_nil _ _ _ _ _|exact Kd.S_nil _ _ _ _ _⟩,⟨bH⟩⟩
 case round =>
 clear H'
 obtain ⟨x3_1,x4_1,x5_1,rfl,rfl,HA,HK1,HO_3,HB⟩:=hrel
 cases gk with
 | zero => exact absurd HA.out (by simp [sr04_Fields.l0])
 | succ k1 =>
 have H:=HA.out
 clear HA
 simp only [sr04_Fields.l0] at H
 by_cases c2 : x5_1 < (a0.size : Int)
 rotate_left
 · rw [if_neg c2] at H
   have c2b0 : decide (x5_1 < (a0.size : Int)) = false:=decide_eq_false c2
   clear c2
   by_cases c11 : 0 ≤ x4_1
   rotate_left
   · rw [if_neg c11] at H
     exact absurd H (by simp)
   rw [if_pos c11] at H
   have c11b0:=eq_true c11
   have c11b1 : decide (0 ≤ x4_1) = true:=decide_eq_true c11
   clear c11
   by_cases c12 : x4_1 ≤ (a0.size : Int)
   rotate_left
   · rw [if_neg c12] at H
     exact absurd H (by simp)
   rw [if_pos c12] at H
   have c12b0:=eq_true c12
   have c12b1 : decide (x4_1 ≤ (a0.size : Int)) = true:=decide_eq_true c12
   clear c12
   by_cases c13 : x3_1.length < 8796093022208
   rotate_left
   · rw [if_neg c13] at H
     exact absurd H (by simp)
   rw [if_pos c13] at H
   have LMc13:=aq c13
   clear c13
   obtain ⟨y108,hy108⟩ : ∃ y_ : List ByteArray,y_ = (x3_1 ++ [a0.extract (x4_1 : Int).toNat a0.size]):=⟨_,rfl⟩
   replace H : (some y108) = some r:=by first|(rw [hy108];with_reducible exact H)|(have H2_:=(Option.bind_some _ _).symm.trans H;rw [hy108];with_reducible exact H2_)|(have H2_:=(Option.bind_some _ _).symm.trans H;with_reducible exact H2_)|with_reducible exact H|(rw [hy108];exact H)|exact H
   have Ny108:=aq hy108
   clear hy108
   obtain rfl:=Option.some.inj H
   go_wp2_with (first|((with_reducible refine gate_builtin (b:=.append) (xs:=#[.tmp 25,.tmp 29]) rfl ?_);at_builtin;refine Kd.R_append Kd.string (w0:=w) w.heap.size rfl (.tmp 25) (.tmp 29) 45 9 (.string ⟨#[]⟩) 16 rfl Tryz.underlying45 info9 rfl (by decide) (by omega) u3 x3_1 (a0.extract (x4_1 : Int).toNat a0.size) [.string (a0.extract (x4_1 : Int).toNat a0.size)] (fun _ => True) (fun _ => False) rfl rfl ?aP (fun _ hk => hk.elim) ?aF ?aO ?aB ?aS ?aL ?_;(case aP => exact rfl);(case aB => exact bH);(case aF => exact (fun _ _ => trivial));(case aO => exact (RU HO_3.out));(case aS => exact (below_size bH));(case aL => have:=LMc13.out;omega);intro v109 w14 ho hb hg hat;rw [← Ny108.out] at ho;have n0_:=aq (hb);have n1_:=aq (ho);clear HB;clear HO_3;have HB:=n0_;have HO110:=n1_;clear n0_ n1_;clear ho hb hg hat))
   go_ret
   exact ⟨_,eR,by (with_reducible repeat (first|apply Kd.R_alloc|apply Kd.R_drewN|apply Kd.R_drew));exact HO110.out,bH⟩
 rw [if_pos c2] at H
 have c2b0 : decide (x5_1 < (a0.size : Int)) = true:=decide_eq_true c2
 clear c2
 by_cases c3 : 0 ≤ x5_1
 rotate_left
 · rw [if_neg c3] at H
   exact absurd H (by simp)
 rw [if_pos c3] at H
 have c3b0 : decide (0 ≤ x5_1) = true:=decide_eq_true c3
 clear c3
 by_cases c5 : (bt a0 x5_1) = 32
 rotate_left
 · rw [if_neg c5] at H
   have c5b0 : ((bt a0 x5_1) == 32) = false:=beq_eq_false_iff_ne.mpr c5
   have c5b1 : ((bt a0 x5_1) != 32) = true:=bne_iff_ne.mpr c5
   have H':=aq H
   clear H
   have p4 : 0 ≤ (x5_1 : Int):=of_decide_eq_true aS
   have q4 : x5_1 < (a0.size : Int):=of_decide_eq_true aS
   have hx4:=bt_at a0 x5_1
   replace p4:=eq_true p4
   replace q4:=eq_true q4
   go_wp2
   go_roundg k1
   case measure => have:=HK1.out;omega
   case rel => exact ⟨(x3_1),(x4_1),(wrap64 (x5_1 + 1)),eS,eS,H',⟨by have:=HK1.out;omega⟩,⟨by (with_reducible repeat (first|apply Kd.R_alloc|apply Kd.R_drewN|apply Kd.R_drew));exact HO_3.out⟩,⟨bH⟩⟩
 rw [if_pos c5] at H
 have c5b0 : ((bt a0 x5_1) == 32) = true:=beq_iff_eq.mpr c5
 have c5b1 : ((bt a0 x5_1) != 32) = false:=bne_eq_false_iff_eq.mpr c5
 clear c5
 by_cases c6 : 0 ≤ x4_1
 rotate_left
 · rw [if_neg c6] at H
   exact absurd H (by simp)
 rw [if_pos c6] at H
 have c6b0:=eq_true c6
 have c6b1 : decide (0 ≤ x4_1) = true:=decide_eq_true c6
 clear c6
 by_cases c7 : x4_1 ≤ x5_1
 rotate_left
 · rw [if_neg c7] at H
   exact absurd H (by simp)
 rw [if_pos c7] at H
 have c7b0:=eq_true c7
 have c7b1 : decide (x4_1 ≤ x5_1) = true:=decide_eq_true c7
 clear c7
 by_cases c8 : x5_1 ≤ (a0.size : Int)
 rotate_left
 · rw [if_neg c8] at H
   exact absurd H (by simp)
 rw [if_pos c8] at H
 have c8b0:=eq_true c8
 have c8b1 : decide (x5_1 ≤ (a0.size : Int)) = true:=decide_eq_true c8
 clear c8
 by_cases c9 : x3_1.length < 8796093022208
 rotate_left
 · rw [if_neg c9] at H
   exact absurd H (by simp)
 rw [if_pos c9] at H
 have LMc9:=aq c9
 clear c9
 obtain ⟨y105,hy105⟩ : ∃ y_ : List ByteArray,y_ = (x3_1 ++ [a0.extract (x4_1 : Int).toNat (x5_1 : Int).toNat]):=⟨_,rfl⟩
 replace H : (sr04_Fields.l0 k1 a0 y105 (wrap64 (x5_1 + 1)) (wrap64 (x5_1 + 1))) = some r:=by first|(rw [hy105];with_reducible exact H)|(have H2_:=(Option.bind_some _ _).symm.trans H;rw [hy105];with_reducible exact H2_)|(have H2_:=(Option.bind_some _ _).symm.trans H;with_reducible exact H2_)|with_reducible exact H|(rw [hy105];exact H)|exact H
 have Ny105:=aq hy105
 clear hy105
 have H':=aq H
 clear H
 have p4 : 0 ≤ (x5_1 : Int):=of_decide_eq_true aS
 have q4 : x5_1 < (a0.size : Int):=of_decide_eq_true aS
 have hx4:=bt_at a0 x5_1
 replace p4:=eq_true p4
 replace q4:=eq_true q4
 go_wp2_with (first|((with_reducible refine gate_builtin (b:=.append) (xs:=#[.tmp 16,.tmp 21]) rfl ?_);at_builtin;refine Kd.R_append Kd.string (w0:=w) w.heap.size rfl (.tmp 16) (.tmp 21) 45 9 (.string ⟨#[]⟩) 16 rfl Tryz.underlying45 info9 rfl (by decide) (by omega) u3 x3_1 (a0.extract (x4_1 : Int).toNat (x5_1 : Int).toNat) [.string (a0.extract (x4_1 : Int).toNat (x5_1 : Int).toNat)] (fun _ => True) (fun _ => False) rfl rfl ?aP (fun _ hk => hk.elim) ?aF ?aO ?aB ?aS ?aL ?_;(case aP => exact rfl);(case aB => exact bH);(case aF => exact (fun _ _ => trivial));(case aO => exact (RU HO_3.out));(case aS => exact (below_size bH));(case aL => have:=LMc9.out;omega);intro v106 w10 ho hb hg hat;rw [← Ny105.out] at ho;have n0_:=aq (hb);have n1_:=aq (ho);clear HB;clear HO_3;have HB:=n0_;have HO107:=n1_;clear n0_ n1_;clear ho hb hg hat))
 go_roundg k1
 case measure => have:=HK1.out;omega
 case rel => exact ⟨(y105),(wrap64 (x5_1 + 1)),(wrap64 (x5_1 + 1)),eS,eS,H',⟨by have:=HK1.out;omega⟩,⟨by (with_reducible repeat (first|apply Kd.R_alloc|apply Kd.R_drewN|apply Kd.R_drew));exact HO107.out⟩,⟨bH⟩⟩
end Go.Proofs.YtaokkkolbifdpaaGreatDoor.Q9
end

section
namespace Go.Proofs.YtaokkkolbifdpaaGreatDoor.Hand
open Go.RowKit Go.Shelf Go.Proofs.YtaokkkolbifdpaaGreatDoorW.PrintWords Go.Proofs.YtaokkkolbifdpaaGreatDoorW.PrintLast Go.Proofs.YtaokkkolbifdpaaGreatDoorW.PrintMore
theorem linesR_loop (s : ByteArray) (hs : s.size ≤ 65536) : ∀ (d k a i : Nat) (out : List (List UInt8)), s.size - i = d → a ≤ i → i ≤ s.size → out.length ≤ i → d < k →
  Q9.sr04_Lines.l0 k s (out.map lb) a i = some (mapL (lin (((bl s).drop a).take (i - a)) out ((bl s).drop i))):=by
 intro d
 induction d with
 | zero =>
  intro k a i out hd ha hi ho hk
  obtain ⟨k,rfl⟩ : ∃ j,k = j + 1:=⟨k - 1,by omega⟩
  have hi2 : i = s.size:=by omega
  subst hi2
  have hl:=bl_len s
  rw [Q9.sr04_Lines.l0,if_neg (by omega),List.drop_of_length_le (i:=s.size) (by omega),lin,List.length_map,wrap_in (by omega) (by omega)]
  by_cases h : a < s.size
  ·
   rw [if_pos (by omega),if_neg]
   ·
    rfl
   ·
    intro e
    have:=congrArg List.length e
    simp at this
    omega
  ·
   rw [if_neg (by omega),if_pos]
   ·
    rfl
   ·
    rw [show s.size - a = 0 from by omega,List.take_zero]
 | succ d ih =>
  intro k a i out hd ha hi ho hk
  obtain ⟨k,rfl⟩ : ∃ j,k = j + 1:=⟨k - 1,by omega⟩
  have hlt : i < s.size:=by omega
  obtain ⟨b,hb1,hb2,hdr⟩:=bt_bl s i hlt
  have H10:=aq (u8_is10 hb2)
  have HSN:=aq (seen_bt hb2)
  have HW : Aside0 (wrap64 ((i : Int) + 1) = ((i + 1 : Nat) : Int)):=⟨by rw [wrap_in (by omega) (by omega)];rfl⟩
  rw [Q9.sr04_Lines.l0,if_pos (by omega),if_pos (by omega),hdr,lin,HW.out]
  by_cases h1 : bt s i = 10
  ·
   rw [if_pos h1,if_pos (by omega),if_pos (by omega),if_pos (by omega),if_pos (by rw [List.length_map];omega),if_pos (H10.out.1 h1),Int.toNat_natCast,Int.toNat_natCast,cut_ext s a i ha]
   have ih:=ih k (i + 1) (i + 1) (out ++ [((bl s).drop a).take (i - a)]) (by omega) (Nat.le_refl _) (by omega) (by simp;omega) (by omega)
   rw [List.map_append,Nat.sub_self,List.take_zero] at ih
   exact ih
  ·
   rw [if_neg h1,if_neg (fun e => h1 (H10.out.2 e)),List.length_map]
   have HL1 : Aside0 (wrap64 ((out.length : Int) + 1) = (out.length : Int) + 1):=⟨wrap_in (by omega) (by omega)⟩
   by_cases h2 : bt s i < 32
   ·
    rw [if_pos h2,HSN.out,decide_eq_true h2,HL1.out]
    rfl
   ·
    by_cases h3 : bt s i > 126
    ·
     rw [if_neg h2,if_pos h3,HSN.out,decide_eq_true h3,decide_eq_false h2,HL1.out]
     rfl
    ·
     have hsb : seen b = true:=by rw [HSN.out,decide_eq_false h2,decide_eq_false h3];rfl
     have ih:=ih k a (i + 1) out (by omega) (by omega) (by omega) (by omega) (by omega)
     rw [if_neg h2,if_neg h3,hsb,if_pos rfl,ih,cur_next s a i b ha hb1]
def sr04_Lines.f (s : ByteArray) : Option (List ByteArray × Int × Int) := word_Lines.f s
theorem linesR_eq (s : ByteArray) : Q9.sr04_Lines.f (s.size + 1) s = some ((linesL (bl s)).1.map lb, (linesL (bl s)).2) := by
 unfold Q9.sr04_Lines.f linesL
 rw [bl_len]
 by_cases h : s.size > 65536
 ·
  rw [if_pos (by omega),if_pos h]
  rfl
 ·
  have:=linesR_loop s (by omega) s.size (s.size + 1) 0 0 [] rfl (Nat.le_refl _) (Nat.zero_le _) (Nat.zero_le _) (by omega)
  rw [if_neg (by omega),if_neg h]
  exact this
theorem sr04_Lines.calls (a0 : ByteArray) (r1 : List ByteArray) (r2 r3 : Int) (w : World) (h : sr04_Lines.f a0 = some (r1, r2, r3)) :
  Calls Tryz.prog 33 #[.string a0] w fun e w' => ∃ v0_ : Value,e = .returned (.tuple #[v0_,.agg #[.int .i64 r2,.int .i64 r3]]) ∧ Kd.R Kd.string 9 w' w.heap.size (fun _ => True) v0_ r1 ∧ Below w.heap.size w w':=by
 unfold sr04_Lines.f word_Lines.f at h
 split at h
 ·
  exact Q9.sr04_Lines.calls _ a0 r1 r2 r3 w ((linesR_eq a0).trans h)
 ·
  cases h
theorem fieldsR_loop (s : ByteArray) (hs : s.size < 4294967281) : ∀ (d k a i : Nat) (out : List (List UInt8)), s.size - i = d → a ≤ i → i ≤ s.size → out.length ≤ i → d < k →
  Q9.sr04_Fields.l0 k s (out.map lb) a i = some ((out ++ fld (((bl s).drop a).take (i - a)) ((bl s).drop i)).map lb):=by
 intro d
 induction d with
 | zero =>
  intro k a i out hd ha hi ho hk
  obtain ⟨k,rfl⟩ : ∃ j,k = j + 1:=⟨k - 1,by omega⟩
  have hi2 : i = s.size:=by omega
  subst hi2
  have hl:=bl_len s
  rw [Q9.sr04_Fields.l0,if_neg (by omega),if_pos (by omega),if_pos (by omega),if_pos (by rw [List.length_map];omega),Int.toNat_natCast,cut_ext s a s.size ha,List.drop_of_length_le (i:=s.size) (by omega),fld]
  simp
 | succ d ih =>
  intro k a i out hd ha hi ho hk
  obtain ⟨k,rfl⟩ : ∃ j,k = j + 1:=⟨k - 1,by omega⟩
  have hlt : i < s.size:=by omega
  obtain ⟨b,hb1,hb2,hdr⟩:=bt_bl s i hlt
  have H32:=aq (u8_is32 hb2)
  have HW : Aside0 (wrap64 ((i : Int) + 1) = ((i + 1 : Nat) : Int)):=⟨by rw [wrap_in (by omega) (by omega)];rfl⟩
  rw [Q9.sr04_Fields.l0,if_pos (by omega),if_pos (by omega),hdr,fld,HW.out]
  by_cases h1 : bt s i = 32
  ·
   rw [if_pos h1,if_pos (by omega),if_pos (by omega),if_pos (by omega),if_pos (by rw [List.length_map];omega),if_pos (H32.out.1 h1),Int.toNat_natCast,Int.toNat_natCast,cut_ext s a i ha]
   have ih:=ih k (i + 1) (i + 1) (out ++ [((bl s).drop a).take (i - a)]) (by omega) (Nat.le_refl _) (by omega) (by simp;omega) (by omega)
   rw [List.map_append,Nat.sub_self,List.take_zero] at ih
   rw [show List.map lb out ++ [lb (((bl s).drop a).take (i - a))] = List.map lb out ++ List.map lb [((bl s).drop a).take (i - a)] from rfl,ih]
   simp
  ·
   have ih:=ih k a (i + 1) out (by omega) (by omega) (by omega) (by omega) (by omega)
   rw [if_neg h1,if_neg (fun e => h1 (H32.out.2 e)),ih,cur_next s a i b ha hb1]
def sr04_Fields.f (s : ByteArray) : Option (List ByteArray) := word_Fields.f s
theorem sr04_Fields.calls (a0 : ByteArray) (r : List ByteArray) (w : World) (h : sr04_Fields.f a0 = some r) :
  Calls Tryz.prog 21 #[.string a0] w fun e w' => ∃ v0_ : Value,e = .returned (v0_) ∧ Kd.R Kd.string 9 w' w.heap.size (fun _ => True) v0_ r ∧ Below w.heap.size w w':=by
 unfold sr04_Fields.f word_Fields.f at h
 split at h
 ·
  rename_i hs
  refine Q9.sr04_Fields.calls (a0.size + 1) a0 r w (Eq.trans ?_ h)
  exact fieldsR_loop a0 hs a0.size (a0.size + 1) 0 0 [] rfl (Nat.le_refl _) (Nat.zero_le _) (Nat.zero_le _) (by omega)
 ·
  cases h
end Go.Proofs.YtaokkkolbifdpaaGreatDoor.Hand
end

section
namespace Go.Proofs.YtaokkkolbifdpaaGreatDoor.Q32
open Go.RowKit Go.Proofs.YtaokkkolbifdpaaGreatDoorW
open PrintWords PrintLast PrintMore Go.Proofs.YtaokkkolbifdpaaGreatDoor.Hand
attribute [local go_sem] max2_int min2_int max_two min_two max_three min_three max_four min_four
def errW : Option Int → Value
  | none => .nilIface
  | some c => .iface 0 (.int .i64 c)
theorem errW_none : errW none = .nilIface := rfl
theorem errW_some (c : Int) : errW (some c) = .iface 0 (.int .i64 c) := rfl
theorem info9 : (Tryz.prog.info? 9).map (fun i => (i.zero, i.size, i.bytes)) = some (some (.string ⟨#[]⟩), 1, 16) := by kernel_rfl
def legend_Line.j0 : Nat → ByteArray → ByteArray → Bool → ByteArray → ByteArray → Option (ByteArray)
  | 0,_,_,_,_,_ => none
  | k + 1,x0,x8,x9,x102000,x102001 => if x9 = true then ((word_Line.f (([x0,x102000,x102001] : List ByteArray))).bind fun t105 => (some t105)) else (if x8.toList = ([109,101,116,104,111,100] : List UInt8) then ((strings_Cut.f x102000 (⟨#[40]⟩ : ByteArray)).bind fun bt106 => (if bt106.2.2 = true then (if 1 + bt106.2.1.size ≤ 9223372036854775807 then ((word_Line.f (([x0,bt106.1,(⟨#[40]⟩ : ByteArray) ++ bt106.2.1,x102001] : List ByteArray))).bind fun t112 => (some t112)) else (none)) else ((word_Line.f (([x0,bt106.1,bt106.2.1,x102001] : List ByteArray))).bind fun t116 => (some t116)))) else (some (⟨#[]⟩ : ByteArray)))
def legend_Line.f (k : Nat) (a0 : ByteArray) (a1_0 : ByteArray) (a1_1 : ByteArray) : Option (ByteArray) := if a0.toList = ([99, 108, 97, 115, 115] : List UInt8) then (legend_Line.j0 k a0 a0 (a0.toList == ([99, 108, 97, 115, 115] : List UInt8)) a1_0 a1_1) else (legend_Line.j0 k a0 a0 (a0.toList == ([102, 105, 101, 108, 100] : List UInt8)) a1_0 a1_1)
theorem legend_Line.mono_l : ∀ k, (∀ y0 y1 y2 y3 y4, LeO (legend_Line.j0 k y0 y1 y2 y3 y4) (legend_Line.j0 (k + 1) y0 y1 y2 y3 y4))
  | 0 => fun _ _ _ _ _ r h => by simp [legend_Line.j0] at h
  | k + 1 => by
    have ih0:=legend_Line.mono_l k
    · intro y0 y1 y2 y3 y4
      unfold legend_Line.j0
      repeat' first
      | (with_reducible exact ih0 _ _ _ _ _)
      | (with_reducible exact LeO.refl _)
      | (with_reducible exact LeO.none _)
      | (with_reducible refine LeO.ite ?_ ?_)
      | (with_reducible refine LeO.bind ?_ (fun _ => ?_))
      | exact ih0 _ _ _ _ _
      | exact LeO.none _
      | refine LeO.ite ?_ ?_
      | refine LeO.bind ?_ (fun _ => ?_)
theorem legend_Line.mono : ∀ a0 a1 a2 k, LeO (legend_Line.f k a0 a1 a2) (legend_Line.f (k + 1) a0 a1 a2) := by
 intro a0 a1 a2 k
 have ih0:=legend_Line.mono_l k
 unfold legend_Line.f
 repeat' first
  | (with_reducible exact ih0 _ _ _ _ _)
  | (with_reducible exact LeO.refl _)
  | (with_reducible exact LeO.none _)
  | (with_reducible refine LeO.ite ?_ ?_)
  | (with_reducible refine LeO.bind ?_ (fun _ => ?_))
  | exact ih0 _ _ _ _ _
  | exact LeO.none _
  | refine LeO.ite ?_ ?_
  | refine LeO.bind ?_ (fun _ => ?_)
theorem legend_Line.calls (k : Nat) (a0 : ByteArray) (a1_0 : ByteArray) (a1_1 : ByteArray) (r : ByteArray) (w : World) (hGMaxL : MaxL w) (h : legend_Line.f k a0 a1_0 a1_1 = some r) :
    Calls Tryz.prog 9 #[.string a0,.agg #[.string a1_0,.string a1_1]] w fun e w' => e = .returned (.string r) ∧ Below w.heap.size w w':=by
 have hu23:=Tryz.underlying23
 have HGMaxL:=aq hGMaxL
 clear hGMaxL
 have HB:=aq (Below.refl w.heap.size w)
 have H : (if a0.toList = ([99,108,97,115,115] : List UInt8) then (legend_Line.j0 k a0 a0 (a0.toList == ([99,108,97,115,115] : List UInt8)) a1_0 a1_1) else (legend_Line.j0 k a0 a0 (a0.toList == ([102,105,101,108,100] : List UInt8)) a1_0 a1_1)) = some r:=h
 clear h
 have HC3:=aq H
 clear H
 go_enter Tryz.func9,Tryz.ntmps9
 go_upto_if 9 with (first|((with_reducible refine gate_dst (N:=3) rfl ?_);refine box_event rfl (N:=3) rfl (cs:=#[.string a1_0,.string a1_1]) (t:=23) gS ?_;intro gb101 hg w4 hbox hb;have BK101:=aq (hbox);have GE101:=aq ((GN hg : w.heap.size ≤ gb101));replace HB:=aq (below_step bH hb);clear hb hbox hg))
 (try simp only [Act.put,List.setIfInBounds_toArray,List.set_cons_zero,List.set_cons_succ])
 go_cut [9] (fun v9 wc => ∃ (kq : Nat) (x9_2 : Bool),v9 = .bool x9_2 ∧ Aside0 (legend_Line.j0 kq a0 a0 x9_2 a1_0 a1_1 = some r) ∧ Aside0 (kq ≤ k) ∧ Aside0 (wc.heap[gb101]? = some (.cells #[.string a1_0,.string a1_1] 23 (0,0))) ∧ Aside0 (Below w.heap.size w wc))
 case first =>
  have H:=HC3.out
  clear HC3
  by_cases c5 : a0.toList = ([99,108,97,115,115] : List UInt8)
  rotate_left
  · rw [if_neg c5] at H
    have c5b0 : (a0.toList == ([99,108,97,115,115] : List UInt8)) = false:=beq_eq_false_iff_ne.mpr c5
    have c5b1 : (a0.toList != ([99,108,97,115,115] : List UInt8)) = true:=bne_iff_ne.mpr c5
    (first|rw [c5b0]|rw [c5b1]|(simp only [i64_w,i32_w];rw [c5b0])|skip)
    have H':=aq H
    clear H
    go_wp2
    go_meet
    case rel => exact ⟨_,((a0.toList == ([102,105,101,108,100] : List UInt8))),eS,H',⟨by first|omega|exact Nat.le_refl _⟩,⟨KU BK101.out⟩,⟨bH⟩⟩
  rw [if_pos c5] at H
  have c5b0 : (a0.toList == ([99,108,97,115,115] : List UInt8)) = true:=beq_iff_eq.mpr c5
  have c5b1 : (a0.toList != ([99,108,97,115,115] : List UInt8)) = false:=bne_eq_false_iff_eq.mpr c5
  clear c5
  (first|rw [c5b0]|rw [c5b1]|(simp only [i64_w,i32_w];rw [c5b0])|skip)
  have H':=aq H
  clear H
  go_wp2
  go_meet
  case rel => exact ⟨_,((a0.toList == ([99,108,97,115,115] : List UInt8))),eS,H',⟨by first|omega|exact Nat.le_refl _⟩,⟨KU BK101.out⟩,⟨bH⟩⟩
 case rest =>
 clear HC3
 obtain ⟨kq,x9_2,rfl,HA,HJ2,BK101,HB⟩:=hcut
 cases kq with
 | zero => exact absurd HA.out (by simp [legend_Line.j0])
 | succ kj2 =>
 have H:=HA.out
 clear HA
 simp only [legend_Line.j0] at H
 by_cases c6 : x9_2 = true
 · subst c6
   have H1 : ((word_Line.f (([a0,a1_0,a1_1] : List ByteArray))).bind fun t105 => (some t105)) = some r:=by rw [if_pos rfl] at H;exact H
   clear H
   have H:=H1
   clear H1
   obtain ⟨y102,hy102⟩ : ∃ y_ : List ByteArray,y_ = (([a0,a1_0,a1_1] : List ByteArray)):=⟨_,rfl⟩
   replace H : ((word_Line.f y102).bind fun t105 => (some t105)) = some r:=by first|(rw [hy102];with_reducible exact H)|(have H2_:=(Option.bind_some _ _).symm.trans H;rw [hy102];with_reducible exact H2_)|(have H2_:=(Option.bind_some _ _).symm.trans H;with_reducible exact H2_)|with_reducible exact H|(rw [hy102];exact H)|exact H
   have Ny102:=aq hy102
   clear hy102
   replace H:=Option.bind_eq_some_iff.mp H
   obtain ⟨t105,A70,H⟩:=H
   have A7:=aq A70
   clear A70
   obtain rfl:=Option.some.inj H
   have hcz8_0 : wc.cell? ⟨gb101,0,none⟩ = some (.string a1_0):=(blk_cell BK101.out 0).trans rfl
   have hcz8_1 : wc.cell? ⟨gb101,1,none⟩ = some (.string a1_1):=(blk_cell BK101.out 1).trans rfl
   have hfz8_0:=blk_frozen BK101.out 0
   have hfz8_1:=blk_frozen BK101.out 1
   go_wp2_with (first|((with_reducible refine gate_dst (N:=17) rfl ?_);refine Kd.R_lit Kd.string _ 9 ?hg (N:=17) ?hd (xs:=([a0,a1_0,a1_1] : List ByteArray)) (inner:=[.string a0,.string a1_0,.string a1_1]) (ok:=fun _ => True) (okp:=fun _ => True) ?hr ?hp (fun _ hk => hk) trivial (Below.refl _ _) (Nat.le_refl _) (by simp) ?_;(case hd => rfl);(case hg => rfl);(case hr => first|(go_simp;done)|(go_simp;rfl));(case hp => exact (Reps.one (show Kd.M Kd.string _ _ _ a0 [.string a0] from rfl) (Reps.one (show Kd.M Kd.string _ _ _ a1_0 [.string a1_0] from rfl) (Reps.one (show Kd.M Kd.string _ _ _ a1_1 [.string a1_1] from rfl) (Reps.none _ _)))));intro v103 w9 ho10 hb hg_ hnew_;clear hg_ hnew_;(first|rw [← Ny102.out] at ho10|(simp only [Int.reduceToNat] at ho10;rw [← Ny102.out] at ho10));have HO104:=aq (Kd.R_lower ho10 (below_size bH));replace BK101:=KN BK101 hb;replace HB:=aq (below_step bH hb);clear hb ho10;obtain ⟨Ao11,co11,eo11⟩:=Kd.R_slice HO104.out;subst eo11)|((with_reducible refine gate_callee (f:=23) rfl ?_);refine goesL_ (some 18) rfl rfl Tryz.func23 (by kernel_rfl) rfl #[.slice Ao11 y102.length co11] rfl eA ?_;(with_reducible refine (word_Line.calls _ _ y102 t105 _ ?side1 ?side2 A7.out).mono ?_);(case side1 => repeat (first|exact (Kd.R_reads' HO104.out).2.2|(with_reducible refine Kd.C_alloc ?_ _)|(with_reducible refine Kd.C_drewN ?_ _)|(with_reducible refine Kd.C_drew ?_)));(case side2 => exact (Kd.R_reads' HO104.out).2.1);rintro e w12 ⟨rfl,hb⟩;refine ⟨_,rfl,?_⟩;replace HO104:=RN HO104 hb;replace BK101:=KN BK101 hb;replace HB:=aq (below_step bH hb);(try clear hb);(try clear hb2);(try clear hk);(try clear hi)))
   go_ret
   exact ⟨eR,bH⟩
 replace c6:=Bool.eq_false_iff.mpr c6
 subst c6
 have H1 : (if a0.toList = ([109,101,116,104,111,100] : List UInt8) then ((strings_Cut.f a1_0 (⟨#[40]⟩ : ByteArray)).bind fun bt106 => (if bt106.2.2 = true then (if 1 + bt106.2.1.size ≤ 9223372036854775807 then ((word_Line.f (([a0,bt106.1,(⟨#[40]⟩ : ByteArray) ++ bt106.2.1,a1_1] : List ByteArray))).bind fun t112 => (some t112)) else (none)) else ((word_Line.f (([a0,bt106.1,bt106.2.1,a1_1] : List ByteArray))).bind fun t116 => (some t116)))) else (some (⟨#[]⟩ : ByteArray))) = some r:=by rw [if_neg (show ¬ (false = true) by decide)] at H;exact H
 clear H
 have H:=H1
 clear H1
 by_cases c13 : a0.toList = ([109,101,116,104,111,100] : List UInt8)
 rotate_left
 · rw [if_neg c13] at H
   have c13b0 : (a0.toList == ([109,101,116,104,111,100] : List UInt8)) = false:=beq_eq_false_iff_ne.mpr c13
   have c13b1 : (a0.toList != ([109,101,116,104,111,100] : List UInt8)) = true:=bne_iff_ne.mpr c13
   obtain rfl:=Option.some.inj H
   go_wp2
   go_ret
   exact ⟨eR,bH⟩
 rw [if_pos c13] at H
 have c13b0 : (a0.toList == ([109,101,116,104,111,100] : List UInt8)) = true:=beq_iff_eq.mpr c13
 have c13b1 : (a0.toList != ([109,101,116,104,111,100] : List UInt8)) = false:=bne_eq_false_iff_eq.mpr c13
 clear c13
 replace H:=Option.bind_eq_some_iff.mp H
 obtain ⟨⟨t106,t107,t108⟩,A140,H⟩:=H
 replace H : (if t108 = true then (if 1 + t107.size ≤ 9223372036854775807 then ((word_Line.f (([a0,t106,(⟨#[40]⟩ : ByteArray) ++ t107,a1_1] : List ByteArray))).bind fun t112 => (some t112)) else (none)) else ((word_Line.f (([a0,t106,t107,a1_1] : List ByteArray))).bind fun t116 => (some t116))) = some r:=H
 have A14:=aq A140
 clear A140
 by_cases c15 : t108 = true
 rotate_left
 · replace c15:=Bool.eq_false_iff.mpr c15
   subst c15
   have H1 : ((word_Line.f (([a0,t106,t107,a1_1] : List ByteArray))).bind fun t116 => (some t116)) = some r:=by rw [if_neg (show ¬ (false = true) by decide)] at H;exact H
   clear H
   have H:=H1
   clear H1
   obtain ⟨y113,hy113⟩ : ∃ y_ : List ByteArray,y_ = (([a0,t106,t107,a1_1] : List ByteArray)):=⟨_,rfl⟩
   replace H : ((word_Line.f y113).bind fun t116 => (some t116)) = some r:=by first|(rw [hy113];with_reducible exact H)|(have H2_:=(Option.bind_some _ _).symm.trans H;rw [hy113];with_reducible exact H2_)|(have H2_:=(Option.bind_some _ _).symm.trans H;with_reducible exact H2_)|with_reducible exact H|(rw [hy113];exact H)|exact H
   have Ny113:=aq hy113
   clear hy113
   replace H:=Option.bind_eq_some_iff.mp H
   obtain ⟨t116,A250,H⟩:=H
   have A25:=aq A250
   clear A250
   obtain rfl:=Option.some.inj H
   have hcz26_0 : wc.cell? ⟨gb101,0,none⟩ = some (.string a1_0):=(blk_cell BK101.out 0).trans rfl
   have hcz26_1 : wc.cell? ⟨gb101,1,none⟩ = some (.string a1_1):=(blk_cell BK101.out 1).trans rfl
   have hfz26_0:=blk_frozen BK101.out 0
   have hfz26_1:=blk_frozen BK101.out 1
   go_wp2_with (first|((with_reducible refine gate_callee (f:=24) rfl ?_);refine goesL_ (some 24) rfl rfl Tryz.func24 (by kernel_rfl) rfl #[.string a1_0,.string (⟨#[40]⟩ : ByteArray)] rfl eA ?_;(with_reducible refine (strings_Cut.calls a1_0 (⟨#[40]⟩ : ByteArray) t106 t107 false _ ?side1 A14.out).mono ?_);(case side1 => exact MaxL.below HGMaxL.out bH);rintro e w27 ⟨rfl,hb⟩;refine ⟨_,rfl,?_⟩;replace BK101:=KN BK101 hb;replace HB:=aq (below_step bH hb);(try clear hb);(try clear hb2);(try clear hk);(try clear hi);have hcz28_0 : w27.cell? ⟨gb101,0,none⟩ = some (.string a1_0):=(blk_cell BK101.out 0).trans rfl;have hcz28_1 : w27.cell? ⟨gb101,1,none⟩ = some (.string a1_1):=(blk_cell BK101.out 1).trans rfl;have hfz28_0:=blk_frozen BK101.out 0;have hfz28_1:=blk_frozen BK101.out 1)|((with_reducible refine gate_dst (N:=36) rfl ?_);refine Kd.R_lit Kd.string _ 9 ?hg (N:=36) ?hd (xs:=([a0,t106,t107,a1_1] : List ByteArray)) (inner:=[.string a0,.string t106,.string t107,.string a1_1]) (ok:=fun _ => True) (okp:=fun _ => True) ?hr ?hp (fun _ hk => hk) trivial (Below.refl _ _) (Nat.le_refl _) (by simp) ?_;(case hd => rfl);(case hg => rfl);(case hr => first|(go_simp;done)|(go_simp;rfl));(case hp => exact (Reps.one (show Kd.M Kd.string _ _ _ a0 [.string a0] from rfl) (Reps.one (show Kd.M Kd.string _ _ _ t106 [.string t106] from rfl) (Reps.one (show Kd.M Kd.string _ _ _ t107 [.string t107] from rfl) (Reps.one (show Kd.M Kd.string _ _ _ a1_1 [.string a1_1] from rfl) (Reps.none _ _))))));intro v114 w29 ho30 hb hg_ hnew_;clear hg_ hnew_;(first|rw [← Ny113.out] at ho30|(simp only [Int.reduceToNat] at ho30;rw [← Ny113.out] at ho30));have HO115:=aq (Kd.R_lower ho30 (below_size bH));replace BK101:=KN BK101 hb;replace HB:=aq (below_step bH hb);clear hb ho30;obtain ⟨Ao31,co31,eo31⟩:=Kd.R_slice HO115.out;subst eo31)|((with_reducible refine gate_callee (f:=23) rfl ?_);refine goesL_ (some 37) rfl rfl Tryz.func23 (by kernel_rfl) rfl #[.slice Ao31 y113.length co31] rfl eA ?_;(with_reducible refine (word_Line.calls _ _ y113 t116 _ ?side1 ?side2 A25.out).mono ?_);(case side1 => repeat (first|exact (Kd.R_reads' HO115.out).2.2|(with_reducible refine Kd.C_alloc ?_ _)|(with_reducible refine Kd.C_drewN ?_ _)|(with_reducible refine Kd.C_drew ?_)));(case side2 => exact (Kd.R_reads' HO115.out).2.1);rintro e w32 ⟨rfl,hb⟩;refine ⟨_,rfl,?_⟩;replace HO115:=RN HO115 hb;replace BK101:=KN BK101 hb;replace HB:=aq (below_step bH hb);(try clear hb);(try clear hb2);(try clear hk);(try clear hi)))
   go_ret
   exact ⟨eR,bH⟩
 subst c15
 have H1 : (if 1 + t107.size ≤ 9223372036854775807 then ((word_Line.f (([a0,t106,(⟨#[40]⟩ : ByteArray) ++ t107,a1_1] : List ByteArray))).bind fun t112 => (some t112)) else (none)) = some r:=by rw [if_pos rfl] at H;exact H
 clear H
 have H:=H1
 clear H1
 by_cases c16 : 1 + t107.size ≤ 9223372036854775807
 rotate_left
 · rw [if_neg c16] at H
   exact absurd H (by simp)
 rw [if_pos c16] at H
 have c16b0:=eq_true c16
 have c16b1 : decide (1 + t107.size ≤ 9223372036854775807) = true:=decide_eq_true c16
 try have c16b2 : (9223372036854775807 < 1 + t107.size) = False:=eq_false (Nat.not_lt.2 c16)
 obtain ⟨y109,hy109⟩ : ∃ y_ : List ByteArray,y_ = (([a0,t106,(⟨#[40]⟩ : ByteArray) ++ t107,a1_1] : List ByteArray)):=⟨_,rfl⟩
 replace H : ((word_Line.f y109).bind fun t112 => (some t112)) = some r:=by first|(rw [hy109];with_reducible exact H)|(have H2_:=(Option.bind_some _ _).symm.trans H;rw [hy109];with_reducible exact H2_)|(have H2_:=(Option.bind_some _ _).symm.trans H;with_reducible exact H2_)|with_reducible exact H|(rw [hy109];exact H)|exact H
 have Ny109:=aq hy109
 clear hy109
 replace H:=Option.bind_eq_some_iff.mp H
 obtain ⟨t112,A170,H⟩:=H
 have A17:=aq A170
 clear A170
 obtain rfl:=Option.some.inj H
 have hcz18_0 : wc.cell? ⟨gb101,0,none⟩ = some (.string a1_0):=(blk_cell BK101.out 0).trans rfl
 have hcz18_1 : wc.cell? ⟨gb101,1,none⟩ = some (.string a1_1):=(blk_cell BK101.out 1).trans rfl
 have hfz18_0:=blk_frozen BK101.out 0
 have hfz18_1:=blk_frozen BK101.out 1
 go_wp2_with (first|((with_reducible refine gate_callee (f:=24) rfl ?_);refine goesL_ (some 24) rfl rfl Tryz.func24 (by kernel_rfl) rfl #[.string a1_0,.string (⟨#[40]⟩ : ByteArray)] rfl eA ?_;(with_reducible refine (strings_Cut.calls a1_0 (⟨#[40]⟩ : ByteArray) t106 t107 true _ ?side1 A14.out).mono ?_);(case side1 => exact MaxL.below HGMaxL.out bH);rintro e w19 ⟨rfl,hb⟩;refine ⟨_,rfl,?_⟩;replace BK101:=KN BK101 hb;replace HB:=aq (below_step bH hb);(try clear hb);(try clear hb2);(try clear hk);(try clear hi);have hcz20_0 : w19.cell? ⟨gb101,0,none⟩ = some (.string a1_0):=(blk_cell BK101.out 0).trans rfl;have hcz20_1 : w19.cell? ⟨gb101,1,none⟩ = some (.string a1_1):=(blk_cell BK101.out 1).trans rfl;have hfz20_0:=blk_frozen BK101.out 0;have hfz20_1:=blk_frozen BK101.out 1)|((with_reducible refine gate_dst (N:=36) rfl ?_);refine Kd.R_lit Kd.string _ 9 ?hg (N:=36) ?hd (xs:=([a0,t106,(⟨#[40]⟩ : ByteArray) ++ t107,a1_1] : List ByteArray)) (inner:=[.string a0,.string t106,.string ((⟨#[40]⟩ : ByteArray) ++ t107),.string a1_1]) (ok:=fun _ => True) (okp:=fun _ => True) ?hr ?hp (fun _ hk => hk) trivial (Below.refl _ _) (Nat.le_refl _) (by simp) ?_;(case hd => rfl);(case hg => rfl);(case hr => first|(go_simp;done)|(go_simp;rfl));(case hp => exact (Reps.one (show Kd.M Kd.string _ _ _ a0 [.string a0] from rfl) (Reps.one (show Kd.M Kd.string _ _ _ t106 [.string t106] from rfl) (Reps.one (show Kd.M Kd.string _ _ _ ((⟨#[40]⟩ : ByteArray) ++ t107) [.string ((⟨#[40]⟩ : ByteArray) ++ t107)] from rfl) (Reps.one (show Kd.M Kd.string _ _ _ a1_1 [.string a1_1] from rfl) (Reps.none _ _))))));intro v110 w21 ho22 hb hg_ hnew_;clear hg_ hnew_;(first|rw [← Ny109.out] at ho22|(simp only [Int.reduceToNat] at ho22;rw [← Ny109.out] at ho22));have HO111:=aq (Kd.R_lower ho22 (below_size bH));replace BK101:=KN BK101 hb;replace HB:=aq (below_step bH hb);clear hb ho22;obtain ⟨Ao23,co23,eo23⟩:=Kd.R_slice HO111.out;subst eo23)|((with_reducible refine gate_callee (f:=23) rfl ?_);refine goesL_ (some 37) rfl rfl Tryz.func23 (by kernel_rfl) rfl #[.slice Ao23 y109.length co23] rfl eA ?_;(with_reducible refine (word_Line.calls _ _ y109 t112 _ ?side1 ?side2 A17.out).mono ?_);(case side1 => repeat (first|exact (Kd.R_reads' HO111.out).2.2|(with_reducible refine Kd.C_alloc ?_ _)|(with_reducible refine Kd.C_drewN ?_ _)|(with_reducible refine Kd.C_drew ?_)));(case side2 => exact (Kd.R_reads' HO111.out).2.1);rintro e w24 ⟨rfl,hb⟩;refine ⟨_,rfl,?_⟩;replace HO111:=RN HO111 hb;replace BK101:=KN BK101 hb;replace HB:=aq (below_step bH hb);(try clear hb);(try clear hb2);(try clear hk);(try clear hi)))
 go_ret
 exact ⟨eR,bH⟩
def legend_Read.j0 : Nat → List ByteArray → ByteArray → Bool → Option (ByteArray × ByteArray × ByteArray × Bool)
  | 0,_,_,_ => none
  | k + 1,x5,x10,x11 => if x11 = true then (if (x5.length : Int) = 3 then (if 0 < (x5.length : Int) then (if 1 < (x5.length : Int) then (if 2 < (x5.length : Int) then (some (rdOf ByteArray.empty x5 0,rdOf ByteArray.empty x5 1,rdOf ByteArray.empty x5 2,true)) else (none)) else (none)) else (none)) else (some ((⟨#[]⟩ : ByteArray),(⟨#[]⟩ : ByteArray),(⟨#[]⟩ : ByteArray),false))) else (if x10.toList = ([109,101,116,104,111,100] : List UInt8) then (if (x5.length : Int) = 4 then (if 1 < (x5.length : Int) then ((strings_Contains.f (rdOf ByteArray.empty x5 1) (⟨#[40]⟩ : ByteArray)).bind fun t126 => (if t126 = true then (some ((⟨#[]⟩ : ByteArray),(⟨#[]⟩ : ByteArray),(⟨#[]⟩ : ByteArray),false)) else (if 2 < (x5.length : Int) then ((strings_HasPrefix.f (rdOf ByteArray.empty x5 2) (⟨#[40]⟩ : ByteArray)).bind fun t128 => (if t128 = true then (if 0 < (x5.length : Int) then (if (rdOf ByteArray.empty x5 1).size + (rdOf ByteArray.empty x5 2).size ≤ 9223372036854775807 then (if 3 < (x5.length : Int) then (some (rdOf ByteArray.empty x5 0,(rdOf ByteArray.empty x5 1) ++ (rdOf ByteArray.empty x5 2),rdOf ByteArray.empty x5 3,true)) else (none)) else (none)) else (none)) else (some ((⟨#[]⟩ : ByteArray),(⟨#[]⟩ : ByteArray),(⟨#[]⟩ : ByteArray),false)))) else (none)))) else (none)) else (some ((⟨#[]⟩ : ByteArray),(⟨#[]⟩ : ByteArray),(⟨#[]⟩ : ByteArray),false))) else (some ((⟨#[]⟩ : ByteArray),(⟨#[]⟩ : ByteArray),(⟨#[]⟩ : ByteArray),false)))
def legend_Read.f (k : Nat) (a0 : ByteArray) : Option (ByteArray × ByteArray × ByteArray × Bool) := (word_Fields.f a0).bind fun t118 => (if 0 < (t118.length : Int) then (if (rdOf ByteArray.empty t118 0).toList = ([99, 108, 97, 115, 115] : List UInt8) then (legend_Read.j0 k t118 (rdOf ByteArray.empty t118 0) ((rdOf ByteArray.empty t118 0).toList == ([99, 108, 97, 115, 115] : List UInt8))) else (legend_Read.j0 k t118 (rdOf ByteArray.empty t118 0) ((rdOf ByteArray.empty t118 0).toList == ([102, 105, 101, 108, 100] : List UInt8)))) else (none))
def legend_Read.T6 : Bool × List (List Nat × List Nat) := (true, [([], []), ([0], [0]), ([1], [1]), ([], []), ([3], [3]), ([4], [4]), ([], []), ([6], [6]), ([7], [7]), ([5, 8], [5, 8]), ([2, 0, 1, 2], [2]), ([9, 10, 0, 1, 2, 3, 4, 5, 6, 7, 8, 9, 10], [9]), ([11, 0, 1, 2, 3, 4, 5, 6, 7, 8, 9, 10, 11], [])])
def legend_Read.B6 : List Nat := [0, 1, 3, 0, 8, 24, 0, 64, 192, 504, 7, 2047, 4095]
theorem legend_Read.tab6 : rtab .any (opsOf Tryz.f7 6) = legend_Read.T6 := by kernel_rfl
theorem legend_Read.bits6 : waitsOk legend_Read.T6.2 legend_Read.B6 = true := by kernel_rfl
def legend_Read.T9 : Bool × List (List Nat × List Nat) := (true, [([], []), ([0], [0]), ([1], [1]), ([], []), ([3], [3]), ([4], [4]), ([], []), ([6], [6]), ([7], [7]), ([5, 8], [5, 8]), ([], []), ([10], [10]), ([11], [11]), ([9, 12], [9, 12]), ([2, 0, 1, 2], [2]), ([13, 14, 0, 1, 2, 3, 4, 5, 6, 7, 8, 9, 10, 11, 12, 13, 14], [13]), ([15, 0, 1, 2, 3, 4, 5, 6, 7, 8, 9, 10, 11, 12, 13, 14, 15], [])])
def legend_Read.B9 : List Nat := [0, 1, 3, 0, 8, 24, 0, 64, 192, 504, 0, 1024, 3072, 8184, 7, 32767, 65535]
theorem legend_Read.tab9 : rtab .any (opsOf Tryz.f7 9) = legend_Read.T9 := by kernel_rfl
theorem legend_Read.bits9 : waitsOk legend_Read.T9.2 legend_Read.B9 = true := by kernel_rfl
theorem legend_Read.calls (k : Nat) (a0 : ByteArray) (r1 : ByteArray) (r2 : ByteArray) (r3 : ByteArray) (r4 : Bool) (w : World) (hGMaxL : MaxL w) (h : legend_Read.f k a0 = some (r1, r2, r3, r4)) :
    Calls Tryz.prog 7 #[.string a0] w fun e w' => e = .returned (.tuple #[.string r1,.agg #[.string r2,.string r3],.bool r4]) ∧ Below w.heap.size w w':=by
 have hu23:=Tryz.underlying23
 have HGMaxL:=aq hGMaxL
 clear hGMaxL
 have HB:=aq (Below.refl w.heap.size w)
 have H : ((word_Fields.f a0).bind fun t118 => (if 0 < (t118.length : Int) then (if (rdOf ByteArray.empty t118 0).toList = ([99,108,97,115,115] : List UInt8) then (legend_Read.j0 k t118 (rdOf ByteArray.empty t118 0) ((rdOf ByteArray.empty t118 0).toList == ([99,108,97,115,115] : List UInt8))) else (legend_Read.j0 k t118 (rdOf ByteArray.empty t118 0) ((rdOf ByteArray.empty t118 0).toList == ([102,105,101,108,100] : List UInt8)))) else (none))) = some (r1,r2,r3,r4):=h
 clear h
 replace H:=Option.bind_eq_some_iff.mp H
 obtain ⟨t118,A20,H⟩:=H
 have A2:=aq A20
 clear A20
 by_cases c3 : 0 < (t118.length : Int)
 rotate_left
 · rw [if_neg c3] at H
   exact absurd H (by simp)
 rw [if_pos c3] at H
 have c3b0 : decide (0 < (t118.length : Int)) = true:=decide_eq_true c3
 have c3b1 : decide (0 < t118.length) = true:=decide_eq_true (by omega)
 clear c3
 have HC4:=aq H
 clear H
 go_enter Tryz.func7,Tryz.ntmps7
 go_upto_if 11 with (first|((with_reducible refine gate_dst (N:=3) rfl ?_);refine box_event rfl (N:=3) rfl (cs:=#[.string (⟨#[]⟩ : ByteArray),.string (⟨#[]⟩ : ByteArray)]) (t:=23) gS ?_;intro gb117 hg w5 hbox hb;have BK117:=aq (hbox);have GE117:=aq ((GN hg : w.heap.size ≤ gb117));replace HB:=aq (below_step bH hb);clear hb hbox hg)|((with_reducible refine gate_callee (f:=18) rfl ?_);refine goesL_ (some 7) rfl rfl Tryz.func18 (by kernel_rfl) rfl #[.string a0] rfl eA ?_;(with_reducible refine (word_Fields.calls a0 t118 _ ?side1 A2.out).mono ?_);(case side1 => exact MaxL.below HGMaxL.out bH);rintro e w6 ⟨v119,rfl,ho0,hb⟩;refine ⟨_,rfl,?_⟩;have HO120:=aq (Kd.R_lower ho0 (below_size bH));replace BK117:=aq (blk_below (g:=gb117) (o:=.cells #[.string (⟨#[]⟩ : ByteArray),.string (⟨#[]⟩ : ByteArray)] 23 (0,0)) (KU BK117.out) hb);replace HB:=aq (below_step bH hb);(try clear hb);(try clear hb2);(try clear hk);(try clear hi);(try clear ho0);obtain ⟨Ao7,co7,eo7⟩:=Kd.R_slice HO120.out;subst eo7;have p121 : 0 ≤ (0 : Int):=(by omega);have q121 : 0 < (t118.length : Int):=of_decide_eq_true aS;obtain ⟨ad121,e121,hx121_0⟩:=Kd.at_string (Kd.R_reads' HO120.out).2.2 0 p121 q121;cases e121;have qi121 : (0 < t118.length) = True:=eq_true (by omega);(try rw [show ((0 : Int)).toNat = 0 from rfl] at hx121_0);(try rw [Addr.add_zero'] at hx121_0);replace p121:=eq_true p121;replace q121:=eq_true q121))
 (try simp only [Act.put,List.setIfInBounds_toArray,List.set_cons_zero,List.set_cons_succ])
 go_cut [11] (fun v11 wc => ∃ (kq : Nat) (x11_3 : Bool),v11 = .bool x11_3 ∧ Aside0 (legend_Read.j0 kq t118 (rdOf ByteArray.empty t118 0) x11_3 = some (r1,r2,r3,r4)) ∧ Aside0 (kq ≤ k) ∧ Aside0 (Kd.R Kd.string 9 wc w.heap.size (fun _ => True) (.slice (some ad121) t118.length co7) t118) ∧ Aside0 (wc.heap[gb117]? = some (.cells #[.string (⟨#[]⟩ : ByteArray),.string (⟨#[]⟩ : ByteArray)] 23 (0,0))) ∧ Aside0 (Below w.heap.size w wc))
 case first =>
  have H:=HC4.out
  clear HC4
  by_cases c8 : (rdOf ByteArray.empty t118 0).toList = ([99,108,97,115,115] : List UInt8)
  rotate_left
  · rw [if_neg c8] at H
    have c8b0 : ((rdOf ByteArray.empty t118 0).toList == ([99,108,97,115,115] : List UInt8)) = false:=beq_eq_false_iff_ne.mpr c8
    have c8b1 : ((rdOf ByteArray.empty t118 0).toList != ([99,108,97,115,115] : List UInt8)) = true:=bne_iff_ne.mpr c8
    (first|rw [c8b0]|rw [c8b1]|(simp only [i64_w,i32_w];rw [c8b0])|skip)
    have H':=aq H
    clear H
    go_wp2
    go_meet
    case rel => exact ⟨_,(((rdOf ByteArray.empty t118 0).toList == ([102,105,101,108,100] : List UInt8))),eS,H',⟨by first|omega|exact Nat.le_refl _⟩,⟨by (with_reducible repeat (first|apply Kd.R_alloc|apply Kd.R_drewN|apply Kd.R_drew));exact HO120.out⟩,⟨KU BK117.out⟩,⟨bH⟩⟩
  rw [if_pos c8] at H
  have c8b0 : ((rdOf ByteArray.empty t118 0).toList == ([99,108,97,115,115] : List UInt8)) = true:=beq_iff_eq.mpr c8
  have c8b1 : ((rdOf ByteArray.empty t118 0).toList != ([99,108,97,115,115] : List UInt8)) = false:=bne_eq_false_iff_eq.mpr c8
  clear c8
  (first|rw [c8b0]|rw [c8b1]|(simp only [i64_w,i32_w];rw [c8b0])|skip)
  have H':=aq H
  clear H
  go_wp2
  go_meet
  case rel => exact ⟨_,(((rdOf ByteArray.empty t118 0).toList == ([99,108,97,115,115] : List UInt8))),eS,H',⟨by first|omega|exact Nat.le_refl _⟩,⟨by (with_reducible repeat (first|apply Kd.R_alloc|apply Kd.R_drewN|apply Kd.R_drew));exact HO120.out⟩,⟨KU BK117.out⟩,⟨bH⟩⟩
 case rest =>
 clear HC4
 (try clear c3);(try clear c3b0);(try clear c3b1);(try clear hx121_0);(try clear p121);(try clear q121)
 obtain ⟨kq,x11_3,rfl,HA,HJ3,HO_5,BK117,HB⟩:=hcut
 cases kq with
 | zero => exact absurd HA.out (by simp [legend_Read.j0])
 | succ kj3 =>
 have H:=HA.out
 clear HA
 simp only [legend_Read.j0] at H
 by_cases c9 : x11_3 = true
 · subst c9
   have H1 : (if (t118.length : Int) = 3 then (if 0 < (t118.length : Int) then (if 1 < (t118.length : Int) then (if 2 < (t118.length : Int) then (some (rdOf ByteArray.empty t118 0,rdOf ByteArray.empty t118 1,rdOf ByteArray.empty t118 2,true)) else (none)) else (none)) else (none)) else (some ((⟨#[]⟩ : ByteArray),(⟨#[]⟩ : ByteArray),(⟨#[]⟩ : ByteArray),false))) = some (r1,r2,r3,r4):=by rw [if_pos rfl] at H;exact H
   clear H
   have H:=H1
   clear H1
   by_cases c10 : (t118.length : Int) = 3
   rotate_left
   · rw [if_neg c10] at H
     have c10b0 : ((t118.length : Int) == 3) = false:=beq_eq_false_iff_ne.mpr c10
     have c10b1 : ((t118.length : Int) != 3) = true:=bne_iff_ne.mpr c10
     simp only [Option.some.injEq,Prod.mk.injEq] at H
     obtain ⟨rfl,rfl,rfl,rfl⟩:=H
     have hcz17_0 : wc.cell? ⟨gb117,0,none⟩ = some (.string (⟨#[]⟩ : ByteArray)):=(blk_cell BK117.out 0).trans rfl
     have hcz17_1 : wc.cell? ⟨gb117,1,none⟩ = some (.string (⟨#[]⟩ : ByteArray)):=(blk_cell BK117.out 1).trans rfl
     have hfz17_0:=blk_frozen BK117.out 0
     have hfz17_1:=blk_frozen BK117.out 1
     go_wp2
     refine bodyPost_ret (results_list (rs:=[.tmp 2,.cell 3 23,.tmp 4]) rfl (by simp) (.tmp (.cell gb117 23 #[.string (⟨#[]⟩ : ByteArray),.string (⟨#[]⟩ : ByteArray)] (0,0) _ rfl (by refine KU ?_;refine blk_put (cs:=#[.string (⟨#[]⟩ : ByteArray),.string (⟨#[]⟩ : ByteArray)]) ?_ 1 _ rfl;refine KU ?_;refine blk_put (cs:=#[.string (⟨#[]⟩ : ByteArray),.string (⟨#[]⟩ : ByteArray)]) ?_ 0 _ rfl;refine KU ?_;exact BK117.out) Tryz.underlying23 rfl (by kernel_rfl) (.tmp .nil)))) rfl ?_
     exact ⟨eR,bH⟩
   rw [if_pos c10] at H
   have c10b0 : ((t118.length : Int) == 3) = true:=beq_iff_eq.mpr c10
   have c10b1 : ((t118.length : Int) != 3) = false:=bne_eq_false_iff_eq.mpr c10
   clear c10
   by_cases c11 : 0 < (t118.length : Int)
   rotate_left
   · rw [if_neg c11] at H
     exact absurd H (by simp)
   rw [if_pos c11] at H
   have c11b0 : decide (0 < (t118.length : Int)) = true:=decide_eq_true c11
   have c11b1 : decide (0 < t118.length) = true:=decide_eq_true (by omega)
   clear c11
   by_cases c12 : 1 < (t118.length : Int)
   rotate_left
   · rw [if_neg c12] at H
     exact absurd H (by simp)
   rw [if_pos c12] at H
   have c12b0 : decide (1 < (t118.length : Int)) = true:=decide_eq_true c12
   have c12b1 : decide (1 < t118.length) = true:=decide_eq_true (by omega)
   clear c12
   by_cases c13 : 2 < (t118.length : Int)
   rotate_left
   · rw [if_neg c13] at H
     exact absurd H (by simp)
   rw [if_pos c13] at H
   have c13b0 : decide (2 < (t118.length : Int)) = true:=decide_eq_true c13
   have c13b1 : decide (2 < t118.length) = true:=decide_eq_true (by omega)
   clear c13
   simp only [Option.some.injEq,Prod.mk.injEq] at H
   obtain ⟨rfl,rfl,rfl,rfl⟩:=H
   try go_wp2
   replace HO_5:=aq (Kd.R_drew HO_5.out)
   replace BK117:=aq (blk_drew BK117.out)
   replace HB:=aq (below_drew1 HB.out)
   have p122 : 0 ≤ (0 : Int):=(by omega)
   have q122 : 0 < (t118.length : Int):=of_decide_eq_true aS
   obtain ⟨ad122,e122,hx122_0⟩:=Kd.at_string (Kd.R_reads' HO_5.out).2.2 0 p122 q122
   obtain rfl : ad121 = ad122:=(by injection e122)
   have qi122 : (0 < t118.length) = True:=eq_true (by omega)
   (try rw [show ((0 : Int)).toNat = 0 from rfl] at hx122_0)
   (try rw [Addr.add_zero'] at hx122_0)
   replace p122:=eq_true p122
   replace q122:=eq_true q122
   have p123 : 0 ≤ (1 : Int):=(by omega)
   have q123 : 1 < (t118.length : Int):=of_decide_eq_true aS
   obtain ⟨ad123,e123,hx123_0⟩:=Kd.at_string (Kd.R_reads' HO_5.out).2.2 1 p123 q123
   obtain rfl : ad121 = ad123:=(by injection e123)
   (try simp only [show (1 : Int).toNat = 1 from rfl,Nat.reduceMul,Nat.reduceEqDiff,Go.Addr.add,↓reduceIte] at hx123_0)
   have qi123 : (1 < t118.length) = True:=eq_true (by omega)
   (try rw [show ((1 : Int)).toNat = 1 from rfl] at hx123_0)
   replace p123:=eq_true p123
   replace q123:=eq_true q123
   have p124 : 0 ≤ (2 : Int):=(by omega)
   have q124 : 2 < (t118.length : Int):=of_decide_eq_true aS
   obtain ⟨ad124,e124,hx124_0⟩:=Kd.at_string (Kd.R_reads' HO_5.out).2.2 2 p124 q124
   obtain rfl : ad121 = ad124:=(by injection e124)
   (try simp only [show (2 : Int).toNat = 2 from rfl,Nat.reduceMul,Nat.reduceEqDiff,Go.Addr.add,↓reduceIte] at hx124_0)
   have qi124 : (2 < t118.length) = True:=eq_true (by omega)
   (try rw [show ((2 : Int)).toNat = 2 from rfl] at hx124_0)
   replace p124:=eq_true p124
   replace q124:=eq_true q124
   refine start_ (n:=13) (S:=fun w' => w'.cell? ad121 = some (.string (rdOf ByteArray.empty t118 0)) ∧ w'.cell? ⟨ad121.block,ad121.off + 1,none⟩ = some (.string (rdOf ByteArray.empty t118 1)) ∧ w'.cell? ⟨ad121.block,ad121.off + 2,none⟩ = some (.string (rdOf ByteArray.empty t118 2))) (ds:=[]) #[false,false,false,false,false,false,false,false,false,false,false,false,false] (by kernel_rfl) rfl rfl ⟨hx122_0,hx123_0,hx124_0⟩ (fun hHeld => ?_);refine with_tabW legend_Read.tab6 legend_Read.bits6 (fun HT_ HW_ => ?_)
   generalize wc.drew = w14 at HO_5 BK117 HB hx122_0 hx123_0 hx124_0 hHeld ⊢
   refine pS (i:=0) (N:=some 17) ?_
   refine pS (i:=1) (N:=some 18) ?_
   refine pS (i:=3) (N:=some 20) ?_
   refine pS (i:=4) (N:=some 21) ?_
   refine pS (i:=6) (N:=some 23) ?_
   refine pS (i:=7) (N:=some 24) ?_
   refine tS (i:=2) (N:=some 19) rfl rfl hHeld HT_.out HW_.out (by kernel_rfl) (Or.inl ⟨by rfl,by rintro w' ⟨s0,s1,s2⟩;go_simp;with_reducible rfl⟩) ?_
   refine pS (i:=10) (N:=some 2) ?_
   refine tS (i:=5) (N:=some 22) rfl rfl hHeld HT_.out HW_.out (by kernel_rfl) (Or.inl ⟨by rfl,by rintro w' ⟨s0,s1,s2⟩;go_simp;with_reducible rfl⟩) ?_
   refine tS (i:=8) (N:=some 25) rfl rfl hHeld HT_.out HW_.out (by kernel_rfl) (Or.inl ⟨by rfl,by rintro w' ⟨s0,s1,s2⟩;go_simp;with_reducible rfl⟩) ?_
   refine pS (i:=9) (N:=some 26) ?_
   refine one_ (i:=11) (N:=none) #[true,true,true,true,true,true,true,true,true,true,true,true,false] rfl rfl (one_of HT_.out (by kernel_rfl)) (by decide) (fun K hK => ?_)
   have hs15 : w14.cell? ⟨gb117,0,none⟩ = some (.string (⟨#[]⟩ : ByteArray)):=(blk_cell BK117.out 0).trans rfl
   have hfs15:=blk_frozen BK117.out 0
   have hs16 : w14.cell? ⟨gb117,1,none⟩ = some (.string (⟨#[]⟩ : ByteArray)):=(blk_cell BK117.out 1).trans rfl
   have hfs16:=blk_frozen BK117.out 1
   refine skip_ (w1:=?_) (by rfl) rfl ?_ ?_
   rotate_left
   · go_simp
     rfl
   refine hK.out _ _ ⟨((cell_far (p:=⟨gb117,_,none⟩) (by first|exact Kd.own_blk (Kd.R_ne HO_5.out BK117.out (by decide))|(rw [add_block];exact Kd.own_blk (Kd.R_ne HO_5.out BK117.out (by decide)))|(show (Addr.add _ _).block ≠ _;rw [add_block];exact Kd.own_blk (Kd.R_ne HO_5.out BK117.out (by decide)))|(dsimp only;exact Kd.own_blk (Kd.R_ne HO_5.out BK117.out (by decide)))) _).trans (((cell_far (p:=⟨gb117,_,none⟩) (by first|exact Kd.own_blk (Kd.R_ne HO_5.out BK117.out (by decide))|(rw [add_block];exact Kd.own_blk (Kd.R_ne HO_5.out BK117.out (by decide)))|(show (Addr.add _ _).block ≠ _;rw [add_block];exact Kd.own_blk (Kd.R_ne HO_5.out BK117.out (by decide)))|(dsimp only;exact Kd.own_blk (Kd.R_ne HO_5.out BK117.out (by decide)))) _).trans (hHeld.1)))),((cell_far (p:=⟨gb117,_,none⟩) (by first|exact Kd.own_blk (Kd.R_ne HO_5.out BK117.out (by decide))|(rw [add_block];exact Kd.own_blk (Kd.R_ne HO_5.out BK117.out (by decide)))|(show (Addr.add _ _).block ≠ _;rw [add_block];exact Kd.own_blk (Kd.R_ne HO_5.out BK117.out (by decide)))|(dsimp only;exact Kd.own_blk (Kd.R_ne HO_5.out BK117.out (by decide)))) _).trans (((cell_far (p:=⟨gb117,_,none⟩) (by first|exact Kd.own_blk (Kd.R_ne HO_5.out BK117.out (by decide))|(rw [add_block];exact Kd.own_blk (Kd.R_ne HO_5.out BK117.out (by decide)))|(show (Addr.add _ _).block ≠ _;rw [add_block];exact Kd.own_blk (Kd.R_ne HO_5.out BK117.out (by decide)))|(dsimp only;exact Kd.own_blk (Kd.R_ne HO_5.out BK117.out (by decide)))) _).trans (hHeld.2.1)))),((cell_far (p:=⟨gb117,_,none⟩) (by first|exact Kd.own_blk (Kd.R_ne HO_5.out BK117.out (by decide))|(rw [add_block];exact Kd.own_blk (Kd.R_ne HO_5.out BK117.out (by decide)))|(show (Addr.add _ _).block ≠ _;rw [add_block];exact Kd.own_blk (Kd.R_ne HO_5.out BK117.out (by decide)))|(dsimp only;exact Kd.own_blk (Kd.R_ne HO_5.out BK117.out (by decide)))) _).trans (((cell_far (p:=⟨gb117,_,none⟩) (by first|exact Kd.own_blk (Kd.R_ne HO_5.out BK117.out (by decide))|(rw [add_block];exact Kd.own_blk (Kd.R_ne HO_5.out BK117.out (by decide)))|(show (Addr.add _ _).block ≠ _;rw [add_block];exact Kd.own_blk (Kd.R_ne HO_5.out BK117.out (by decide)))|(dsimp only;exact Kd.own_blk (Kd.R_ne HO_5.out BK117.out (by decide)))) _).trans (hHeld.2.2))))⟩ (fun hHeld => ?_)
   clear hK K
   refine pS (i:=12) (N:=some 4) ?_
   refine done_ (done_of HT_.out (by kernel_rfl)) ?_
   try go_wp2
   refine bodyPost_ret (results_list (rs:=[.tmp 2,.cell 3 23,.tmp 4]) rfl (by simp) (.tmp (.cell gb117 23 #[.string (rdOf ByteArray.empty t118 1),.string (rdOf ByteArray.empty t118 2)] (0,0) _ rfl (by refine KU ?_;refine blk_put (cs:=#[.string (rdOf ByteArray.empty t118 1),.string (⟨#[]⟩ : ByteArray)]) ?_ 1 _ rfl;refine KU ?_;refine blk_put (cs:=#[.string (⟨#[]⟩ : ByteArray),.string (⟨#[]⟩ : ByteArray)]) ?_ 0 _ rfl;refine KU ?_;exact BK117.out) Tryz.underlying23 rfl (by kernel_rfl) (.tmp .nil)))) rfl ?_
   exact ⟨eR,bH⟩
 replace c9:=Bool.eq_false_iff.mpr c9
 subst c9
 have H1 : (if (rdOf ByteArray.empty t118 0).toList = ([109,101,116,104,111,100] : List UInt8) then (if (t118.length : Int) = 4 then (if 1 < (t118.length : Int) then ((strings_Contains.f (rdOf ByteArray.empty t118 1) (⟨#[40]⟩ : ByteArray)).bind fun t126 => (if t126 = true then (some ((⟨#[]⟩ : ByteArray),(⟨#[]⟩ : ByteArray),(⟨#[]⟩ : ByteArray),false)) else (if 2 < (t118.length : Int) then ((strings_HasPrefix.f (rdOf ByteArray.empty t118 2) (⟨#[40]⟩ : ByteArray)).bind fun t128 => (if t128 = true then (if 0 < (t118.length : Int) then (if (rdOf ByteArray.empty t118 1).size + (rdOf ByteArray.empty t118 2).size ≤ 9223372036854775807 then (if 3 < (t118.length : Int) then (some (rdOf ByteArray.empty t118 0,(rdOf ByteArray.empty t118 1) ++ (rdOf ByteArray.empty t118 2),rdOf ByteArray.empty t118 3,true)) else (none)) else (none)) else (none)) else (some ((⟨#[]⟩ : ByteArray),(⟨#[]⟩ : ByteArray),(⟨#[]⟩ : ByteArray),false)))) else (none)))) else (none)) else (some ((⟨#[]⟩ : ByteArray),(⟨#[]⟩ : ByteArray),(⟨#[]⟩ : ByteArray),false))) else (some ((⟨#[]⟩ : ByteArray),(⟨#[]⟩ : ByteArray),(⟨#[]⟩ : ByteArray),false))) = some (r1,r2,r3,r4):=by rw [if_neg (show ¬ (false = true) by decide)] at H;exact H
 clear H
 have H:=H1
 clear H1
 by_cases c18 : (rdOf ByteArray.empty t118 0).toList = ([109,101,116,104,111,100] : List UInt8)
 rotate_left
 · rw [if_neg c18] at H
   have c18b0 : ((rdOf ByteArray.empty t118 0).toList == ([109,101,116,104,111,100] : List UInt8)) = false:=beq_eq_false_iff_ne.mpr c18
   have c18b1 : ((rdOf ByteArray.empty t118 0).toList != ([109,101,116,104,111,100] : List UInt8)) = true:=bne_iff_ne.mpr c18
   simp only [Option.some.injEq,Prod.mk.injEq] at H
   obtain ⟨rfl,rfl,rfl,rfl⟩:=H
   have hcz40_0 : wc.cell? ⟨gb117,0,none⟩ = some (.string (⟨#[]⟩ : ByteArray)):=(blk_cell BK117.out 0).trans rfl
   have hcz40_1 : wc.cell? ⟨gb117,1,none⟩ = some (.string (⟨#[]⟩ : ByteArray)):=(blk_cell BK117.out 1).trans rfl
   have hfz40_0:=blk_frozen BK117.out 0
   have hfz40_1:=blk_frozen BK117.out 1
   go_wp2
   refine bodyPost_ret (results_list (rs:=[.tmp 2,.cell 3 23,.tmp 4]) rfl (by simp) (.tmp (.cell gb117 23 #[.string (⟨#[]⟩ : ByteArray),.string (⟨#[]⟩ : ByteArray)] (0,0) _ rfl (by refine KU ?_;refine blk_put (cs:=#[.string (⟨#[]⟩ : ByteArray),.string (⟨#[]⟩ : ByteArray)]) ?_ 1 _ rfl;refine KU ?_;refine blk_put (cs:=#[.string (⟨#[]⟩ : ByteArray),.string (⟨#[]⟩ : ByteArray)]) ?_ 0 _ rfl;refine KU ?_;exact BK117.out) Tryz.underlying23 rfl (by kernel_rfl) (.tmp .nil)))) rfl ?_
   exact ⟨eR,bH⟩
 rw [if_pos c18] at H
 have c18b0 : ((rdOf ByteArray.empty t118 0).toList == ([109,101,116,104,111,100] : List UInt8)) = true:=beq_iff_eq.mpr c18
 have c18b1 : ((rdOf ByteArray.empty t118 0).toList != ([109,101,116,104,111,100] : List UInt8)) = false:=bne_eq_false_iff_eq.mpr c18
 clear c18
 by_cases c19 : (t118.length : Int) = 4
 rotate_left
 · rw [if_neg c19] at H
   have c19b0 : ((t118.length : Int) == 4) = false:=beq_eq_false_iff_ne.mpr c19
   have c19b1 : ((t118.length : Int) != 4) = true:=bne_iff_ne.mpr c19
   simp only [Option.some.injEq,Prod.mk.injEq] at H
   obtain ⟨rfl,rfl,rfl,rfl⟩:=H
   have hcz39_0 : wc.cell? ⟨gb117,0,none⟩ = some (.string (⟨#[]⟩ : ByteArray)):=(blk_cell BK117.out 0).trans rfl
   have hcz39_1 : wc.cell? ⟨gb117,1,none⟩ = some (.string (⟨#[]⟩ : ByteArray)):=(blk_cell BK117.out 1).trans rfl
   have hfz39_0:=blk_frozen BK117.out 0
   have hfz39_1:=blk_frozen BK117.out 1
   go_wp2
   refine bodyPost_ret (results_list (rs:=[.tmp 2,.cell 3 23,.tmp 4]) rfl (by simp) (.tmp (.cell gb117 23 #[.string (⟨#[]⟩ : ByteArray),.string (⟨#[]⟩ : ByteArray)] (0,0) _ rfl (by refine KU ?_;refine blk_put (cs:=#[.string (⟨#[]⟩ : ByteArray),.string (⟨#[]⟩ : ByteArray)]) ?_ 1 _ rfl;refine KU ?_;refine blk_put (cs:=#[.string (⟨#[]⟩ : ByteArray),.string (⟨#[]⟩ : ByteArray)]) ?_ 0 _ rfl;refine KU ?_;exact BK117.out) Tryz.underlying23 rfl (by kernel_rfl) (.tmp .nil)))) rfl ?_
   exact ⟨eR,bH⟩
 rw [if_pos c19] at H
 have c19b0 : ((t118.length : Int) == 4) = true:=beq_iff_eq.mpr c19
 have c19b1 : ((t118.length : Int) != 4) = false:=bne_eq_false_iff_eq.mpr c19
 clear c19
 by_cases c20 : 1 < (t118.length : Int)
 rotate_left
 · rw [if_neg c20] at H
   exact absurd H (by simp)
 rw [if_pos c20] at H
 have c20b0 : decide (1 < (t118.length : Int)) = true:=decide_eq_true c20
 have c20b1 : decide (1 < t118.length) = true:=decide_eq_true (by omega)
 clear c20
 replace H:=Option.bind_eq_some_iff.mp H
 obtain ⟨t126,A210,H⟩:=H
 have A21:=aq A210
 clear A210
 by_cases c22 : t126 = true
 · subst c22
   have H1 : (some ((⟨#[]⟩ : ByteArray),(⟨#[]⟩ : ByteArray),(⟨#[]⟩ : ByteArray),false)) = some (r1,r2,r3,r4):=by rw [if_pos rfl] at H;exact H
   clear H
   have H:=H1
   clear H1
   simp only [Option.some.injEq,Prod.mk.injEq] at H
   obtain ⟨rfl,rfl,rfl,rfl⟩:=H
   have p125 : 0 ≤ (1 : Int):=(by omega)
   have q125 : 1 < (t118.length : Int):=of_decide_eq_true aS
   obtain ⟨ad125,e125,hx125_0⟩:=Kd.at_string (Kd.R_reads' HO_5.out).2.2 1 p125 q125
   obtain rfl : ad121 = ad125:=(by injection e125)
   (try simp only [show (1 : Int).toNat = 1 from rfl,Nat.reduceMul,Nat.reduceEqDiff,Go.Addr.add,↓reduceIte] at hx125_0)
   have qi125 : (1 < t118.length) = True:=eq_true (by omega)
   (try rw [show ((1 : Int)).toNat = 1 from rfl] at hx125_0)
   replace p125:=eq_true p125
   replace q125:=eq_true q125
   go_wp2_with (first|(go_at_call 19;(with_reducible refine (strings_Contains.calls (rdOf ByteArray.empty t118 1) (⟨#[40]⟩ : ByteArray) true _ ?side1 A21.out).mono ?_);(case side1 => exact MaxL.below HGMaxL.out bH);rintro e w23 ⟨rfl,hb⟩;replace HO_5:=RN HO_5 hb;replace BK117:=aq (blk_below (g:=gb117) (o:=.cells #[.string (⟨#[]⟩ : ByteArray),.string (⟨#[]⟩ : ByteArray)] 23 (0,0)) (KU BK117.out) hb);replace HB:=aq (below_step bH hb);(try clear hb);(try clear hb2);(try clear hk);(try clear hi);have hcz24_0 : w23.cell? ⟨gb117,0,none⟩ = some (.string (⟨#[]⟩ : ByteArray)):=(blk_cell BK117.out 0).trans rfl;have hcz24_1 : w23.cell? ⟨gb117,1,none⟩ = some (.string (⟨#[]⟩ : ByteArray)):=(blk_cell BK117.out 1).trans rfl;have hfz24_0:=blk_frozen BK117.out 0;have hfz24_1:=blk_frozen BK117.out 1))
   refine bodyPost_ret (results_list (rs:=[.tmp 2,.cell 3 23,.tmp 4]) rfl (by simp) (.tmp (.cell gb117 23 #[.string (⟨#[]⟩ : ByteArray),.string (⟨#[]⟩ : ByteArray)] (0,0) _ rfl (by refine KU ?_;refine blk_put (cs:=#[.string (⟨#[]⟩ : ByteArray),.string (⟨#[]⟩ : ByteArray)]) ?_ 1 _ rfl;refine KU ?_;refine blk_put (cs:=#[.string (⟨#[]⟩ : ByteArray),.string (⟨#[]⟩ : ByteArray)]) ?_ 0 _ rfl;refine KU ?_;exact BK117.out) Tryz.underlying23 rfl (by kernel_rfl) (.tmp .nil)))) rfl ?_
   exact ⟨eR,bH⟩
 replace c22:=Bool.eq_false_iff.mpr c22
 subst c22
 have H1 : (if 2 < (t118.length : Int) then ((strings_HasPrefix.f (rdOf ByteArray.empty t118 2) (⟨#[40]⟩ : ByteArray)).bind fun t128 => (if t128 = true then (if 0 < (t118.length : Int) then (if (rdOf ByteArray.empty t118 1).size + (rdOf ByteArray.empty t118 2).size ≤ 9223372036854775807 then (if 3 < (t118.length : Int) then (some (rdOf ByteArray.empty t118 0,(rdOf ByteArray.empty t118 1) ++ (rdOf ByteArray.empty t118 2),rdOf ByteArray.empty t118 3,true)) else (none)) else (none)) else (none)) else (some ((⟨#[]⟩ : ByteArray),(⟨#[]⟩ : ByteArray),(⟨#[]⟩ : ByteArray),false)))) else (none)) = some (r1,r2,r3,r4):=by rw [if_neg (show ¬ (false = true) by decide)] at H;exact H
 clear H
 have H:=H1
 clear H1
 by_cases c25 : 2 < (t118.length : Int)
 rotate_left
 · rw [if_neg c25] at H
   exact absurd H (by simp)
 rw [if_pos c25] at H
 have c25b0 : decide (2 < (t118.length : Int)) = true:=decide_eq_true c25
 have c25b1 : decide (2 < t118.length) = true:=decide_eq_true (by omega)
 clear c25
 replace H:=Option.bind_eq_some_iff.mp H
 obtain ⟨t128,A260,H⟩:=H
 have A26:=aq A260
 clear A260
 by_cases c27 : t128 = true
 rotate_left
 · replace c27:=Bool.eq_false_iff.mpr c27
   subst c27
   have H1 : (some ((⟨#[]⟩ : ByteArray),(⟨#[]⟩ : ByteArray),(⟨#[]⟩ : ByteArray),false)) = some (r1,r2,r3,r4):=by rw [if_neg (show ¬ (false = true) by decide)] at H;exact H
   clear H
   have H:=H1
   clear H1
   simp only [Option.some.injEq,Prod.mk.injEq] at H
   obtain ⟨rfl,rfl,rfl,rfl⟩:=H
   have p125 : 0 ≤ (1 : Int):=(by omega)
   have q125 : 1 < (t118.length : Int):=of_decide_eq_true aS
   obtain ⟨ad125,e125,hx125_0⟩:=Kd.at_string (Kd.R_reads' HO_5.out).2.2 1 p125 q125
   obtain rfl : ad121 = ad125:=(by injection e125)
   (try simp only [show (1 : Int).toNat = 1 from rfl,Nat.reduceMul,Nat.reduceEqDiff,Go.Addr.add,↓reduceIte] at hx125_0)
   have qi125 : (1 < t118.length) = True:=eq_true (by omega)
   (try rw [show ((1 : Int)).toNat = 1 from rfl] at hx125_0)
   replace p125:=eq_true p125
   replace q125:=eq_true q125
   go_wp2_with (first|(go_at_call 19;(with_reducible refine (strings_Contains.calls (rdOf ByteArray.empty t118 1) (⟨#[40]⟩ : ByteArray) false _ ?side1 A21.out).mono ?_);(case side1 => exact MaxL.below HGMaxL.out bH);rintro e w36 ⟨rfl,hb⟩;replace HO_5:=RN HO_5 hb;replace BK117:=aq (blk_below (g:=gb117) (o:=.cells #[.string (⟨#[]⟩ : ByteArray),.string (⟨#[]⟩ : ByteArray)] 23 (0,0)) (KU BK117.out) hb);replace HB:=aq (below_step bH hb);(try clear hb);(try clear hb2);(try clear hk);(try clear hi);have p127 : 0 ≤ (2 : Int):=(by omega);have q127 : 2 < (t118.length : Int):=of_decide_eq_true aS;obtain ⟨ad127,e127,hx127_0⟩:=Kd.at_string (Kd.R_reads' HO_5.out).2.2 2 p127 q127;obtain rfl : ad121 = ad127:=(by injection e127);(try simp only [show (2 : Int).toNat = 2 from rfl,Nat.reduceMul,Nat.reduceEqDiff,Go.Addr.add,↓reduceIte] at hx127_0);have qi127 : (2 < t118.length) = True:=eq_true (by omega);(try rw [show ((2 : Int)).toNat = 2 from rfl] at hx127_0);replace p127:=eq_true p127;replace q127:=eq_true q127)|(go_at_call 20;(with_reducible refine (strings_HasPrefix.calls (rdOf ByteArray.empty t118 2) (⟨#[40]⟩ : ByteArray) false _ A26.out).mono ?_);rintro e w37 ⟨rfl,hb⟩;replace HO_5:=RN HO_5 hb;replace BK117:=aq (blk_below (g:=gb117) (o:=.cells #[.string (⟨#[]⟩ : ByteArray),.string (⟨#[]⟩ : ByteArray)] 23 (0,0)) (KU BK117.out) hb);replace HB:=aq (below_step bH hb);(try clear hb);(try clear hb2);(try clear hk);(try clear hi);have hcz38_0 : w37.cell? ⟨gb117,0,none⟩ = some (.string (⟨#[]⟩ : ByteArray)):=(blk_cell BK117.out 0).trans rfl;have hcz38_1 : w37.cell? ⟨gb117,1,none⟩ = some (.string (⟨#[]⟩ : ByteArray)):=(blk_cell BK117.out 1).trans rfl;have hfz38_0:=blk_frozen BK117.out 0;have hfz38_1:=blk_frozen BK117.out 1))
   refine bodyPost_ret (results_list (rs:=[.tmp 2,.cell 3 23,.tmp 4]) rfl (by simp) (.tmp (.cell gb117 23 #[.string (⟨#[]⟩ : ByteArray),.string (⟨#[]⟩ : ByteArray)] (0,0) _ rfl (by refine KU ?_;refine blk_put (cs:=#[.string (⟨#[]⟩ : ByteArray),.string (⟨#[]⟩ : ByteArray)]) ?_ 1 _ rfl;refine KU ?_;refine blk_put (cs:=#[.string (⟨#[]⟩ : ByteArray),.string (⟨#[]⟩ : ByteArray)]) ?_ 0 _ rfl;refine KU ?_;exact BK117.out) Tryz.underlying23 rfl (by kernel_rfl) (.tmp .nil)))) rfl ?_
   exact ⟨eR,bH⟩
 subst c27
 have H1 : (if 0 < (t118.length : Int) then (if (rdOf ByteArray.empty t118 1).size + (rdOf ByteArray.empty t118 2).size ≤ 9223372036854775807 then (if 3 < (t118.length : Int) then (some (rdOf ByteArray.empty t118 0,(rdOf ByteArray.empty t118 1) ++ (rdOf ByteArray.empty t118 2),rdOf ByteArray.empty t118 3,true)) else (none)) else (none)) else (none)) = some (r1,r2,r3,r4):=by rw [if_pos rfl] at H;exact H
 clear H
 have H:=H1
 clear H1
 by_cases c28 : 0 < (t118.length : Int)
 rotate_left
 · rw [if_neg c28] at H
   exact absurd H (by simp)
 rw [if_pos c28] at H
 have c28b0 : decide (0 < (t118.length : Int)) = true:=decide_eq_true c28
 have c28b1 : decide (0 < t118.length) = true:=decide_eq_true (by omega)
 clear c28
 by_cases c29 : (rdOf ByteArray.empty t118 1).size + (rdOf ByteArray.empty t118 2).size ≤ 9223372036854775807
 rotate_left
 · rw [if_neg c29] at H
   exact absurd H (by simp)
 rw [if_pos c29] at H
 have c29b0:=eq_true c29
 have c29b1 : decide ((rdOf ByteArray.empty t118 1).size + (rdOf ByteArray.empty t118 2).size ≤ 9223372036854775807) = true:=decide_eq_true c29
 try have c29b2 : (9223372036854775807 < (rdOf ByteArray.empty t118 1).size + (rdOf ByteArray.empty t118 2).size) = False:=eq_false (Nat.not_lt.2 c29)
 by_cases c30 : 3 < (t118.length : Int)
 rotate_left
 · rw [if_neg c30] at H
   exact absurd H (by simp)
 rw [if_pos c30] at H
 have c30b0 : decide (3 < (t118.length : Int)) = true:=decide_eq_true c30
 have c30b1 : decide (3 < t118.length) = true:=decide_eq_true (by omega)
 clear c30
 simp only [Option.some.injEq,Prod.mk.injEq] at H
 obtain ⟨rfl,rfl,rfl,rfl⟩:=H
 have p125 : 0 ≤ (1 : Int):=(by omega)
 have q125 : 1 < (t118.length : Int):=of_decide_eq_true aS
 obtain ⟨ad125,e125,hx125_0⟩:=Kd.at_string (Kd.R_reads' HO_5.out).2.2 1 p125 q125
 obtain rfl : ad121 = ad125:=(by injection e125)
 (try simp only [show (1 : Int).toNat = 1 from rfl,Nat.reduceMul,Nat.reduceEqDiff,Go.Addr.add,↓reduceIte] at hx125_0)
 have qi125 : (1 < t118.length) = True:=eq_true (by omega)
 (try rw [show ((1 : Int)).toNat = 1 from rfl] at hx125_0)
 replace p125:=eq_true p125
 replace q125:=eq_true q125
 try go_wp2_with (first|(go_at_call 19;(with_reducible refine (strings_Contains.calls (rdOf ByteArray.empty t118 1) (⟨#[40]⟩ : ByteArray) false _ ?side1 A21.out).mono ?_);(case side1 => exact MaxL.below HGMaxL.out bH);rintro e w31 ⟨rfl,hb⟩;replace HO_5:=RN HO_5 hb;replace BK117:=aq (blk_below (g:=gb117) (o:=.cells #[.string (⟨#[]⟩ : ByteArray),.string (⟨#[]⟩ : ByteArray)] 23 (0,0)) (KU BK117.out) hb);replace HB:=aq (below_step bH hb);(try clear hb);(try clear hb2);(try clear hk);(try clear hi);have p127 : 0 ≤ (2 : Int):=(by omega);have q127 : 2 < (t118.length : Int):=of_decide_eq_true aS;obtain ⟨ad127,e127,hx127_0⟩:=Kd.at_string (Kd.R_reads' HO_5.out).2.2 2 p127 q127;obtain rfl : ad121 = ad127:=(by injection e127);(try simp only [show (2 : Int).toNat = 2 from rfl,Nat.reduceMul,Nat.reduceEqDiff,Go.Addr.add,↓reduceIte] at hx127_0);have qi127 : (2 < t118.length) = True:=eq_true (by omega);(try rw [show ((2 : Int)).toNat = 2 from rfl] at hx127_0);replace p127:=eq_true p127;replace q127:=eq_true q127)|(go_at_call 20;(with_reducible refine (strings_HasPrefix.calls (rdOf ByteArray.empty t118 2) (⟨#[40]⟩ : ByteArray) true _ A26.out).mono ?_);rintro e w32 ⟨rfl,hb⟩;replace HO_5:=RN HO_5 hb;replace BK117:=aq (blk_below (g:=gb117) (o:=.cells #[.string (⟨#[]⟩ : ByteArray),.string (⟨#[]⟩ : ByteArray)] 23 (0,0)) (KU BK117.out) hb);replace HB:=aq (below_step bH hb);(try clear hb);(try clear hb2);(try clear hk);(try clear hi)))
 replace HO_5:=aq (Kd.R_drew HO_5.out)
 replace BK117:=aq (blk_drew BK117.out)
 replace HB:=aq (below_drew1 HB.out)
 have p129 : 0 ≤ (0 : Int):=(by omega)
 have q129 : 0 < (t118.length : Int):=of_decide_eq_true aS
 obtain ⟨ad129,e129,hx129_0⟩:=Kd.at_string (Kd.R_reads' HO_5.out).2.2 0 p129 q129
 obtain rfl : ad121 = ad129:=(by injection e129)
 have qi129 : (0 < t118.length) = True:=eq_true (by omega)
 (try rw [show ((0 : Int)).toNat = 0 from rfl] at hx129_0)
 (try rw [Addr.add_zero'] at hx129_0)
 replace p129:=eq_true p129
 replace q129:=eq_true q129
 have p130 : 0 ≤ (1 : Int):=(by omega)
 have q130 : 1 < (t118.length : Int):=of_decide_eq_true aS
 obtain ⟨ad130,e130,hx130_0⟩:=Kd.at_string (Kd.R_reads' HO_5.out).2.2 1 p130 q130
 obtain rfl : ad121 = ad130:=(by injection e130)
 (try simp only [show (1 : Int).toNat = 1 from rfl,Nat.reduceMul,Nat.reduceEqDiff,Go.Addr.add,↓reduceIte] at hx130_0)
 have qi130 : (1 < t118.length) = True:=eq_true (by omega)
 (try rw [show ((1 : Int)).toNat = 1 from rfl] at hx130_0)
 replace p130:=eq_true p130
 replace q130:=eq_true q130
 have p131 : 0 ≤ (2 : Int):=(by omega)
 have q131 : 2 < (t118.length : Int):=of_decide_eq_true aS
 obtain ⟨ad131,e131,hx131_0⟩:=Kd.at_string (Kd.R_reads' HO_5.out).2.2 2 p131 q131
 obtain rfl : ad121 = ad131:=(by injection e131)
 (try simp only [show (2 : Int).toNat = 2 from rfl,Nat.reduceMul,Nat.reduceEqDiff,Go.Addr.add,↓reduceIte] at hx131_0)
 have qi131 : (2 < t118.length) = True:=eq_true (by omega)
 (try rw [show ((2 : Int)).toNat = 2 from rfl] at hx131_0)
 replace p131:=eq_true p131
 replace q131:=eq_true q131
 have p132 : 0 ≤ (3 : Int):=(by omega)
 have q132 : 3 < (t118.length : Int):=of_decide_eq_true aS
 obtain ⟨ad132,e132,hx132_0⟩:=Kd.at_string (Kd.R_reads' HO_5.out).2.2 3 p132 q132
 obtain rfl : ad121 = ad132:=(by injection e132)
 (try simp only [show (3 : Int).toNat = 3 from rfl,Nat.reduceMul,Nat.reduceEqDiff,Go.Addr.add,↓reduceIte] at hx132_0)
 have qi132 : (3 < t118.length) = True:=eq_true (by omega)
 (try rw [show ((3 : Int)).toNat = 3 from rfl] at hx132_0)
 replace p132:=eq_true p132
 replace q132:=eq_true q132
 refine start_ (n:=17) (S:=fun w' => w'.cell? ad121 = some (.string (rdOf ByteArray.empty t118 0)) ∧ w'.cell? ⟨ad121.block,ad121.off + 1,none⟩ = some (.string (rdOf ByteArray.empty t118 1)) ∧ w'.cell? ⟨ad121.block,ad121.off + 2,none⟩ = some (.string (rdOf ByteArray.empty t118 2)) ∧ w'.cell? ⟨ad121.block,ad121.off + 3,none⟩ = some (.string (rdOf ByteArray.empty t118 3))) (ds:=[]) #[false,false,false,false,false,false,false,false,false,false,false,false,false,false,false,false,false] (by kernel_rfl) rfl rfl ⟨hx129_0,hx130_0,hx131_0,hx132_0⟩ (fun hHeld => ?_);refine with_tabW legend_Read.tab9 legend_Read.bits9 (fun HT_ HW_ => ?_)
 generalize w32.drew = w33 at HO_5 BK117 HB hx129_0 hx130_0 hx131_0 hx132_0 hHeld ⊢
 refine pS (i:=0) (N:=some 45) ?_
 refine pS (i:=1) (N:=some 46) ?_
 refine pS (i:=3) (N:=some 48) ?_
 refine pS (i:=4) (N:=some 49) ?_
 refine pS (i:=6) (N:=some 51) ?_
 refine pS (i:=7) (N:=some 52) ?_
 refine pS (i:=10) (N:=some 55) ?_
 refine pS (i:=11) (N:=some 56) ?_
 refine tS (i:=2) (N:=some 47) rfl rfl hHeld HT_.out HW_.out (by kernel_rfl) (Or.inl ⟨by rfl,by rintro w' ⟨s0,s1,s2,s3⟩;go_simp;with_reducible rfl⟩) ?_
 refine pS (i:=14) (N:=some 2) ?_
 refine tS (i:=5) (N:=some 50) rfl rfl hHeld HT_.out HW_.out (by kernel_rfl) (Or.inl ⟨by rfl,by rintro w' ⟨s0,s1,s2,s3⟩;go_simp;with_reducible rfl⟩) ?_
 refine tS (i:=8) (N:=some 53) rfl rfl hHeld HT_.out HW_.out (by kernel_rfl) (Or.inl ⟨by rfl,by rintro w' ⟨s0,s1,s2,s3⟩;go_simp;with_reducible rfl⟩) ?_
 refine pS (i:=9) (N:=some 54) ?_
 refine tS (i:=12) (N:=some 57) rfl rfl hHeld HT_.out HW_.out (by kernel_rfl) (Or.inl ⟨by rfl,by rintro w' ⟨s0,s1,s2,s3⟩;go_simp;with_reducible rfl⟩) ?_
 refine pS (i:=13) (N:=some 58) ?_
 refine one_ (i:=15) (N:=none) #[true,true,true,true,true,true,true,true,true,true,true,true,true,true,true,true,false] rfl rfl (one_of HT_.out (by kernel_rfl)) (by decide) (fun K hK => ?_)
 have hs34 : w33.cell? ⟨gb117,0,none⟩ = some (.string (⟨#[]⟩ : ByteArray)):=(blk_cell BK117.out 0).trans rfl
 have hfs34:=blk_frozen BK117.out 0
 have hs35 : w33.cell? ⟨gb117,1,none⟩ = some (.string (⟨#[]⟩ : ByteArray)):=(blk_cell BK117.out 1).trans rfl
 have hfs35:=blk_frozen BK117.out 1
 refine skip_ (w1:=?_) (by rfl) rfl ?_ ?_
 rotate_left
 · go_simp
   rfl
 refine hK.out _ _ ⟨((cell_far (p:=⟨gb117,_,none⟩) (by first|exact Kd.own_blk (Kd.R_ne HO_5.out BK117.out (by decide))|(rw [add_block];exact Kd.own_blk (Kd.R_ne HO_5.out BK117.out (by decide)))|(show (Addr.add _ _).block ≠ _;rw [add_block];exact Kd.own_blk (Kd.R_ne HO_5.out BK117.out (by decide)))|(dsimp only;exact Kd.own_blk (Kd.R_ne HO_5.out BK117.out (by decide)))) _).trans (((cell_far (p:=⟨gb117,_,none⟩) (by first|exact Kd.own_blk (Kd.R_ne HO_5.out BK117.out (by decide))|(rw [add_block];exact Kd.own_blk (Kd.R_ne HO_5.out BK117.out (by decide)))|(show (Addr.add _ _).block ≠ _;rw [add_block];exact Kd.own_blk (Kd.R_ne HO_5.out BK117.out (by decide)))|(dsimp only;exact Kd.own_blk (Kd.R_ne HO_5.out BK117.out (by decide)))) _).trans (hHeld.1)))),((cell_far (p:=⟨gb117,_,none⟩) (by first|exact Kd.own_blk (Kd.R_ne HO_5.out BK117.out (by decide))|(rw [add_block];exact Kd.own_blk (Kd.R_ne HO_5.out BK117.out (by decide)))|(show (Addr.add _ _).block ≠ _;rw [add_block];exact Kd.own_blk (Kd.R_ne HO_5.out BK117.out (by decide)))|(dsimp only;exact Kd.own_blk (Kd.R_ne HO_5.out BK117.out (by decide)))) _).trans (((cell_far (p:=⟨gb117,_,none⟩) (by first|exact Kd.own_blk (Kd.R_ne HO_5.out BK117.out (by decide))|(rw [add_block];exact Kd.own_blk (Kd.R_ne HO_5.out BK117.out (by decide)))|(show (Addr.add _ _).block ≠ _;rw [add_block];exact Kd.own_blk (Kd.R_ne HO_5.out BK117.out (by decide)))|(dsimp only;exact Kd.own_blk (Kd.R_ne HO_5.out BK117.out (by decide)))) _).trans (hHeld.2.1)))),((cell_far (p:=⟨gb117,_,none⟩) (by first|exact Kd.own_blk (Kd.R_ne HO_5.out BK117.out (by decide))|(rw [add_block];exact Kd.own_blk (Kd.R_ne HO_5.out BK117.out (by decide)))|(show (Addr.add _ _).block ≠ _;rw [add_block];exact Kd.own_blk (Kd.R_ne HO_5.out BK117.out (by decide)))|(dsimp only;exact Kd.own_blk (Kd.R_ne HO_5.out BK117.out (by decide)))) _).trans (((cell_far (p:=⟨gb117,_,none⟩) (by first|exact Kd.own_blk (Kd.R_ne HO_5.out BK117.out (by decide))|(rw [add_block];exact Kd.own_blk (Kd.R_ne HO_5.out BK117.out (by decide)))|(show (Addr.add _ _).block ≠ _;rw [add_block];exact Kd.own_blk (Kd.R_ne HO_5.out BK117.out (by decide)))|(dsimp only;exact Kd.own_blk (Kd.R_ne HO_5.out BK117.out (by decide)))) _).trans (hHeld.2.2.1)))),((cell_far (p:=⟨gb117,_,none⟩) (by first|exact Kd.own_blk (Kd.R_ne HO_5.out BK117.out (by decide))|(rw [add_block];exact Kd.own_blk (Kd.R_ne HO_5.out BK117.out (by decide)))|(show (Addr.add _ _).block ≠ _;rw [add_block];exact Kd.own_blk (Kd.R_ne HO_5.out BK117.out (by decide)))|(dsimp only;exact Kd.own_blk (Kd.R_ne HO_5.out BK117.out (by decide)))) _).trans (((cell_far (p:=⟨gb117,_,none⟩) (by first|exact Kd.own_blk (Kd.R_ne HO_5.out BK117.out (by decide))|(rw [add_block];exact Kd.own_blk (Kd.R_ne HO_5.out BK117.out (by decide)))|(show (Addr.add _ _).block ≠ _;rw [add_block];exact Kd.own_blk (Kd.R_ne HO_5.out BK117.out (by decide)))|(dsimp only;exact Kd.own_blk (Kd.R_ne HO_5.out BK117.out (by decide)))) _).trans (hHeld.2.2.2))))⟩ (fun hHeld => ?_)
 clear hK K
 refine pS (i:=16) (N:=some 4) ?_
 refine done_ (done_of HT_.out (by kernel_rfl)) ?_
 try go_wp2
 refine bodyPost_ret (results_list (rs:=[.tmp 2,.cell 3 23,.tmp 4]) rfl (by simp) (.tmp (.cell gb117 23 #[.string ((rdOf ByteArray.empty t118 1) ++ (rdOf ByteArray.empty t118 2)),.string (rdOf ByteArray.empty t118 3)] (0,0) _ rfl (by refine KU ?_;refine blk_put (cs:=#[.string ((rdOf ByteArray.empty t118 1) ++ (rdOf ByteArray.empty t118 2)),.string (⟨#[]⟩ : ByteArray)]) ?_ 1 _ rfl;refine KU ?_;refine blk_put (cs:=#[.string (⟨#[]⟩ : ByteArray),.string (⟨#[]⟩ : ByteArray)]) ?_ 0 _ rfl;refine KU ?_;exact BK117.out) Tryz.underlying23 rfl (by kernel_rfl) (.tmp .nil)))) rfl ?_
 exact ⟨eR,bH⟩
def legend_lines.l0 : Nat → ByteArray → List ByteArray → List (S23) → Int → Int → Option (List ByteArray)
  | 0,_,_,_,_,_ => none
  | k + 1,x0,x5,x8,x9,x10 => if x10 < x9 then (if 0 ≤ x10 then (if x10 < (x8.length : Int) then ((legend_Line.f k x0 ((rd_T23 x8 x10).f0) ((rd_T23 x8 x10).f1)).bind fun t135 => (if x5.length < 8796093022208 then (legend_lines.l0 k x0 (x5 ++ [t135]) x8 x9 (wrap64 (x10 + 1))) else (none))) else (none)) else (none)) else (some x5)
def legend_lines.f (k : Nat) (a0 : ByteArray) (l1 : List (S23)) : Option (List ByteArray) := legend_lines.l0 k a0 ([] : List ByteArray) l1 (l1.length : Int) 0
theorem legend_lines.calls (k : Nat) (a0 : ByteArray) (A1 : Option Addr) (c1 : Nat) (l1 : List (S23)) (r : List ByteArray) (w : World) (hr1 : Kd.C k23 w A1 l1.length l1) (hc1 : l1.length ≤ c1) (hGMaxL : MaxL w) (h : legend_lines.f k a0 l1 = some r) :
    Calls Tryz.prog 28 #[.string a0,.slice A1 l1.length c1] w fun e w' => ∃ v0_ : Value,e = .returned (v0_) ∧ Kd.R Kd.string 9 w' w.heap.size (fun _ => True) v0_ r ∧ Below w.heap.size w w':=by
 have hu23:=Tryz.underlying23
 have HGMaxL:=aq hGMaxL
 clear hGMaxL
 have HR1:=aq hr1
 have HC1:=aq hc1
 clear hr1 hc1
 have HB:=aq (Below.refl w.heap.size w)
 have H : (legend_lines.l0 k a0 ([] : List ByteArray) l1 (l1.length : Int) 0) = some r:=h
 clear h
 have H':=aq H
 clear H
 go_enter Tryz.func28,Tryz.ntmps28
 go_wp2
 go_loopg [5,10] k (fun kq v5 v10 w' => ∃ (x5_1 : List ByteArray) (x10_1 : Int),v10 = .int .i64 x10_1 ∧ Aside0 (legend_lines.l0 kq a0 x5_1 l1 (l1.length : Int) x10_1 = some r) ∧ Aside0 (kq ≤ k) ∧ Aside0 (Kd.R Kd.string 9 w' w.heap.size (fun _ => True) v5 x5_1) ∧ Aside0 (Below w.heap.size w w'))
 case atStart => exact ⟨(([] : List ByteArray)),(0),eS,H',⟨Nat.le_refl _⟩,⟨by first|exact Kd.R_nil _ _ _ _ _|exact Kd.N_nil _ _ _ _ _|exact Kd.V_nil _ _ _ _ _|exact Kd.Q_nil _ _ _ _ _|exact Kd.S_nil _ _ _ _ _⟩,⟨bH⟩⟩
 case round =>
 clear H'
 try clear c1
 obtain ⟨x5_1,x10_1,rfl,HA,HK1,HO_5,HB⟩:=hrel
 cases gk with
 | zero => exact absurd HA.out (by simp [legend_lines.l0])
 | succ k1 =>
 have H:=HA.out
 clear HA
 simp only [legend_lines.l0] at H
 by_cases c3 : x10_1 < (l1.length : Int)
 rotate_left
 · rw [if_neg c3] at H
   have c3b0 : decide (x10_1 < (l1.length : Int)) = false:=decide_eq_false c3
   clear c3
   obtain rfl:=Option.some.inj H
   go_wp2
   go_ret
   exact ⟨_,eR,by (with_reducible repeat (first|apply Kd.R_alloc|apply Kd.R_drewN|apply Kd.R_drew));exact HO_5.out,bH⟩
 rw [if_pos c3] at H
 have c3b0 : decide (x10_1 < (l1.length : Int)) = true:=decide_eq_true c3
 clear c3
 by_cases c4 : 0 ≤ x10_1
 rotate_left
 · rw [if_neg c4] at H
   exact absurd H (by simp)
 rw [if_pos c4] at H
 have c4b0 : decide (0 ≤ x10_1) = true:=decide_eq_true c4
 clear c4
 by_cases c5 : x10_1 < (l1.length : Int)
 rotate_left
 · rw [if_neg c5] at H
   exact absurd H (by simp)
 rw [if_pos c5] at H
 have c5b0 : decide (x10_1 < (l1.length : Int)) = true:=decide_eq_true c5
 clear c5
 replace H:=Option.bind_eq_some_iff.mp H
 obtain ⟨t135,A60,H⟩:=H
 have A6:=aq A60
 clear A60
 by_cases c7 : x5_1.length < 8796093022208
 rotate_left
 · rw [if_neg c7] at H
   exact absurd H (by simp)
 rw [if_pos c7] at H
 have LMc7:=aq c7
 clear c7
 obtain ⟨y136,hy136⟩ : ∃ y_ : List ByteArray,y_ = (x5_1 ++ [t135]):=⟨_,rfl⟩
 replace H : (legend_lines.l0 k1 a0 y136 l1 (l1.length : Int) (wrap64 (x10_1 + 1))) = some r:=by first|(rw [hy136];with_reducible exact H)|(have H2_:=(Option.bind_some _ _).symm.trans H;rw [hy136];with_reducible exact H2_)|(have H2_:=(Option.bind_some _ _).symm.trans H;with_reducible exact H2_)|with_reducible exact H|(rw [hy136];exact H)|exact H
 have Ny136:=aq hy136
 clear hy136
 have H':=aq H
 clear H
 have p133 : 0 ≤ (x10_1 : Int):=of_decide_eq_true aS
 have q133 : x10_1 < (l1.length : Int):=of_decide_eq_true aS
 obtain ⟨ad133,e133,hx133_0,hx133_1⟩:=at_T23 HR1.out x10_1 p133 q133
 cases e133
 replace hx133_0:=(HB.out.cell (World.block_lt_of_cell? w _ hx133_0)).trans hx133_0
 replace hx133_1:=(HB.out.cell (World.block_lt_of_cell? w _ hx133_1)).trans hx133_1
 replace p133:=eq_true p133
 replace q133:=eq_true q133
 go_wp2_with (first|((with_reducible refine gate_dst (N:=7) rfl ?_);refine box_event rfl (N:=7) rfl (cs:=#[.string (⟨#[]⟩ : ByteArray),.string (⟨#[]⟩ : ByteArray)]) (t:=23) gS ?_;intro gb134 hg w8 hbox hb;have BK134:=aq (hbox);have GE134:=aq ((GN hg : w.heap.size ≤ gb134));replace HO_5:=RN HO_5 hb;replace HB:=aq (below_step bH hb);clear hb hbox hg;have hcz9_0 : w8.cell? ⟨gb134,0,none⟩ = some (.string (⟨#[]⟩ : ByteArray)):=(blk_cell BK134.out 0).trans rfl;have hcz9_1 : w8.cell? ⟨gb134,1,none⟩ = some (.string (⟨#[]⟩ : ByteArray)):=(blk_cell BK134.out 1).trans rfl;have hfz9_0:=blk_frozen BK134.out 0;have hfz9_1:=blk_frozen BK134.out 1)|((with_reducible refine gate_callee (f:=9) rfl ?_);refine goesL_ (some 17) rfl rfl Tryz.func9 (by kernel_rfl) rfl #[.string a0,.agg #[.string ((rd_T23 l1 x10_1).f0),.string ((rd_T23 l1 x10_1).f1)]] rfl eA ?_;(with_reducible refine (legend_Line.calls k1 a0 ((rd_T23 l1 x10_1).f0) ((rd_T23 l1 x10_1).f1) t135 _ ?side1 A6.out).mono ?_);(case side1 => exact MaxL.below HGMaxL.out bH);rintro e w10 ⟨rfl,hb⟩;refine ⟨_,rfl,?_⟩;replace HO_5:=aq (Kd.R_below (by (with_reducible repeat (first|apply Kd.R_alloc|apply Kd.R_drewN|apply Kd.R_drew));exact (Kd.R_mono (RF gb134 1 (RF gb134 0 (Kd.R_types HO_5.out BK134.out (by decide)) (.string ((rd_T23 l1 x10_1).f0))) (.string ((rd_T23 l1 x10_1).f1))) (fun _ h_ => h_.1))) hb);replace BK134:=aq (blk_below (g:=gb134) (o:=.cells #[.string ((rd_T23 l1 x10_1).f0),.string ((rd_T23 l1 x10_1).f1)] 23 (0,0)) (by refine KU ?_;refine blk_put (cs:=#[.string ((rd_T23 l1 x10_1).f0),.string (⟨#[]⟩ : ByteArray)]) ?_ 1 _ rfl;refine KU ?_;refine blk_put (cs:=#[.string (⟨#[]⟩ : ByteArray),.string (⟨#[]⟩ : ByteArray)]) ?_ 0 _ rfl;refine KU ?_;exact BK134.out) hb);replace HB:=aq (below_step bH hb);(try clear hb);(try clear hb2);(try clear hk);(try clear hi))|((with_reducible refine gate_builtin (b:=.append) (xs:=#[.tmp 14,.tmp 18]) rfl ?_);at_builtin;refine Kd.R_append Kd.string (w0:=w) w.heap.size rfl (.tmp 14) (.tmp 18) 45 9 (.string ⟨#[]⟩) 16 rfl Tryz.underlying45 info9 rfl (by decide) (by omega) u5 x5_1 t135 [.string t135] (fun _ => True) (fun _ => False) rfl rfl ?aP (fun _ hk => hk.elim) ?aF ?aO ?aB ?aS ?aL ?_;(case aP => exact rfl);(case aB => exact bH);(case aF => exact (fun _ _ => trivial));(case aO => exact (RU HO_5.out));(case aS => exact (below_size bH));(case aL => have:=LMc7.out;omega);intro v137 w11 ho hb hg hat;rw [← Ny136.out] at ho;have n0_:=aq (blk_grown (g:=gb134) (o:=.cells #[.string ((rd_T23 l1 x10_1).f0),.string ((rd_T23 l1 x10_1).f1)] 23 (0,0)) (KU BK134.out) hg (Kd.R_ne HO_5.out BK134.out (by decide)));have n1_:=aq (hb);have n2_:=aq (ho);clear BK134;clear HB;clear HO_5;have BK134:=n0_;have HB:=n1_;have HO138:=n2_;clear n0_ n1_ n2_;clear ho hb hg hat))
 go_roundg k1
 case measure => have:=HK1.out;omega
 case rel => exact ⟨(y136),(wrap64 (x10_1 + 1)),eS,H',⟨by have:=HK1.out;omega⟩,⟨by (with_reducible repeat (first|apply Kd.R_alloc|apply Kd.R_drewN|apply Kd.R_drew));exact HO138.out⟩,⟨bH⟩⟩
def sr30_cut.l0 : Nat → ByteArray → Int → Option (ByteArray × ByteArray)
  | 0,_,_ => none
  | k + 1,x0,x4 => if x4 < (x0.size : Int) then (if 0 ≤ x4 then (if (bt x0 x4) = 40 then (if x4 ≤ (x0.size : Int) then (some (x0.extract 0 (x4 : Int).toNat,x0.extract (x4 : Int).toNat x0.size)) else (none)) else (sr30_cut.l0 k x0 (wrap64 (x4 + 1)))) else (none)) else (some (x0,(⟨#[]⟩ : ByteArray)))
def sr30_cut.f (k : Nat) (a0 : ByteArray) : Option (ByteArray × ByteArray) := sr30_cut.l0 k a0 0
theorem sr30_cut.calls (k : Nat) (a0 : ByteArray) (r1 : ByteArray) (r2 : ByteArray) (w : World) (h : sr30_cut.f k a0 = some (r1, r2)) :
    Calls Tryz.prog 22 #[.string a0] w fun e w' => e = .returned (.tuple #[.string r1,.string r2]) ∧ Drawn0 w w':=by
 have H : (sr30_cut.l0 k a0 0) = some (r1,r2):=h
 clear h
 have H':=aq H
 clear H
 go_enter Tryz.func22,Tryz.ntmps22
 go_wp2
 repeat (go_quiet (fail);try go_wp2)
 go_loopg [4] k (fun kq v4 w' => ∃ (x4_1 : Int),v4 = .int .i64 x4_1 ∧ Aside0 (sr30_cut.l0 kq a0 x4_1 = some (r1,r2)) ∧ Aside0 (kq ≤ k) ∧ Drawn0 w w')
 case atStart => exact ⟨(0),eS,H',⟨Nat.le_refl _⟩,dR⟩
 case round =>
 clear H'
 obtain ⟨x4_1,rfl,HA,HK1,⟨m1,rfl⟩⟩:=hrel
 cases gk with
 | zero => exact absurd HA.out (by simp [sr30_cut.l0])
 | succ k1 =>
 have H:=HA.out
 clear HA
 simp only [sr30_cut.l0] at H
 by_cases c2 : x4_1 < (a0.size : Int)
 rotate_left
 · rw [if_neg c2] at H
   have c2b0 : decide (x4_1 < (a0.size : Int)) = false:=decide_eq_false c2
   clear c2
   simp only [Option.some.injEq,Prod.mk.injEq] at H
   obtain ⟨rfl,rfl⟩:=H
   go_wp2
   repeat (go_quiet (fail);try go_wp2)
   go_ret2
   exact ⟨eS,dR⟩
 rw [if_pos c2] at H
 have c2b0 : decide (x4_1 < (a0.size : Int)) = true:=decide_eq_true c2
 clear c2
 by_cases c3 : 0 ≤ x4_1
 rotate_left
 · rw [if_neg c3] at H
   exact absurd H (by simp)
 rw [if_pos c3] at H
 have c3b0 : decide (0 ≤ x4_1) = true:=decide_eq_true c3
 clear c3
 by_cases c5 : (bt a0 x4_1) = 40
 rotate_left
 · rw [if_neg c5] at H
   have c5b0 : ((bt a0 x4_1) == 40) = false:=beq_eq_false_iff_ne.mpr c5
   have c5b1 : ((bt a0 x4_1) != 40) = true:=bne_iff_ne.mpr c5
   have H':=aq H
   clear H
   have p4 : 0 ≤ (x4_1 : Int):=of_decide_eq_true aS
   have q4 : x4_1 < (a0.size : Int):=of_decide_eq_true aS
   have hx4:=bt_at a0 x4_1
   replace p4:=eq_true p4
   replace q4:=eq_true q4
   go_wp2
   repeat (go_quiet (fail);try go_wp2)
   go_roundg k1
   case measure => have:=HK1.out;omega
   case rel => exact ⟨(wrap64 (x4_1 + 1)),eS,H',⟨by have:=HK1.out;omega⟩,dR⟩
 rw [if_pos c5] at H
 have c5b0 : ((bt a0 x4_1) == 40) = true:=beq_iff_eq.mpr c5
 have c5b1 : ((bt a0 x4_1) != 40) = false:=bne_eq_false_iff_eq.mpr c5
 clear c5
 have c6b0:=eq_true (of_decide_eq_true aS : 0 ≤ x4_1)
 by_cases c7 : x4_1 ≤ (a0.size : Int)
 rotate_left
 · rw [if_neg c7] at H
   exact absurd H (by simp)
 rw [if_pos c7] at H
 have c7b0:=eq_true c7
 have c7b1 : decide (x4_1 ≤ (a0.size : Int)) = true:=decide_eq_true c7
 clear c7
 have c8b0:=eq_true (of_decide_eq_true aS : 0 ≤ x4_1)
 have c9b0:=eq_true (of_decide_eq_true aS : x4_1 ≤ (a0.size : Int))
 simp only [Option.some.injEq,Prod.mk.injEq] at H
 obtain ⟨rfl,rfl⟩:=H
 have p4 : 0 ≤ (x4_1 : Int):=of_decide_eq_true aS
 have q4 : x4_1 < (a0.size : Int):=of_decide_eq_true aS
 have hx4:=bt_at a0 x4_1
 replace p4:=eq_true p4
 replace q4:=eq_true q4
 go_wp2
 repeat (go_quiet (fail);try go_wp2)
 go_ret2
 exact ⟨eS,dR⟩
mutual
def sr30_Read.j0 : Nat → List ByteArray → Bool → Option (ByteArray × ByteArray × ByteArray × Bool)
  | 0,_,_ => none
  | k + 1,x5,x24 => if x24 = true then (if 0 < (x5.length : Int) then (if 1 < (x5.length : Int) then (if 2 < (x5.length : Int) then (some (rdOf ByteArray.empty x5 0,rdOf ByteArray.empty x5 1,rdOf ByteArray.empty x5 2,true)) else (none)) else (none)) else (none)) else (if (x5.length : Int) = 4 then (if 0 < (x5.length : Int) then (if (rdOf ByteArray.empty x5 0).toList = ([109,101,116,104,111,100] : List UInt8) then (if 2 < (x5.length : Int) then (if ((rdOf ByteArray.empty x5 2).size : Int) > 0 then (if 0 < ((rdOf ByteArray.empty x5 2).size : Int) then (sr30_Read.j1 k x5 ((bt (rdOf ByteArray.empty x5 2) 0) == 40)) else (none)) else (sr30_Read.j1 k x5 false)) else (none)) else (sr30_Read.j1 k x5 false)) else (none)) else (sr30_Read.j1 k x5 false))
def sr30_Read.j1 : Nat → List ByteArray → Bool → Option (ByteArray × ByteArray × ByteArray × Bool)
  | 0,_,_ => none
  | k + 1,x5,x57 => if x57 = true then (if 1 < (x5.length : Int) then ((sr30_cut.f k (rdOf ByteArray.empty x5 1)).bind fun bt152 => (if bt152.2.toList = ([] : List UInt8) then (if 0 < (x5.length : Int) then (if 2 < (x5.length : Int) then (if (rdOf ByteArray.empty x5 1).size + (rdOf ByteArray.empty x5 2).size ≤ 9223372036854775807 then (if 3 < (x5.length : Int) then (some (rdOf ByteArray.empty x5 0,(rdOf ByteArray.empty x5 1) ++ (rdOf ByteArray.empty x5 2),rdOf ByteArray.empty x5 3,true)) else (none)) else (none)) else (none)) else (none)) else (some ((⟨#[]⟩ : ByteArray),(⟨#[]⟩ : ByteArray),(⟨#[]⟩ : ByteArray),false)))) else (none)) else (some ((⟨#[]⟩ : ByteArray),(⟨#[]⟩ : ByteArray),(⟨#[]⟩ : ByteArray),false))
end
def sr30_Read.f (k : Nat) (a0 : ByteArray) : Option (ByteArray × ByteArray × ByteArray × Bool) := (sr04_Fields.f a0).bind fun t140 => (if (t140.length : Int) = 3 then (if 0 < (t140.length : Int) then (if (rdOf ByteArray.empty t140 0).toList = ([99, 108, 97, 115, 115] : List UInt8) then (sr30_Read.j0 k t140 true) else (sr30_Read.j0 k t140 ((rdOf ByteArray.empty t140 0).toList == ([102, 105, 101, 108, 100] : List UInt8)))) else (none)) else (sr30_Read.j0 k t140 false))
def sr30_Read.T3 : Bool × List (List Nat × List Nat) := (true, [([], []), ([0], [0]), ([1], [1]), ([], []), ([3], [3]), ([4], [4]), ([], []), ([6], [6]), ([7], [7]), ([5, 8], [5, 8]), ([2, 0, 1, 2], [2]), ([9, 10, 0, 1, 2, 3, 4, 5, 6, 7, 8, 9, 10], [9]), ([11, 0, 1, 2, 3, 4, 5, 6, 7, 8, 9, 10, 11], [])])
def sr30_Read.B3 : List Nat := [0, 1, 3, 0, 8, 24, 0, 64, 192, 504, 7, 2047, 4095]
theorem sr30_Read.tab3 : rtab .any (opsOf Tryz.f8 3) = sr30_Read.T3 := by kernel_rfl
theorem sr30_Read.bits3 : waitsOk sr30_Read.T3.2 sr30_Read.B3 = true := by kernel_rfl
def sr30_Read.T7 : Bool × List (List Nat × List Nat) := (true, [([], []), ([0], [0]), ([1], [1]), ([], []), ([3], [3]), ([4], [4]), ([], []), ([6], [6]), ([7], [7]), ([5, 8], [5, 8]), ([], []), ([10], [10]), ([11], [11]), ([9, 12], [9, 12]), ([2, 0, 1, 2], [2]), ([13, 14, 0, 1, 2, 3, 4, 5, 6, 7, 8, 9, 10, 11, 12, 13, 14], [13]), ([15, 0, 1, 2, 3, 4, 5, 6, 7, 8, 9, 10, 11, 12, 13, 14, 15], [])])
def sr30_Read.B7 : List Nat := [0, 1, 3, 0, 8, 24, 0, 64, 192, 504, 0, 1024, 3072, 8184, 7, 32767, 65535]
theorem sr30_Read.tab7 : rtab .any (opsOf Tryz.f8 7) = sr30_Read.T7 := by kernel_rfl
theorem sr30_Read.bits7 : waitsOk sr30_Read.T7.2 sr30_Read.B7 = true := by kernel_rfl
theorem sr30_Read.calls (k : Nat) (a0 : ByteArray) (r1 : ByteArray) (r2 : ByteArray) (r3 : ByteArray) (r4 : Bool) (w : World) (h : sr30_Read.f k a0 = some (r1, r2, r3, r4)) :
    Calls Tryz.prog 8 #[.string a0] w fun e w' => e = .returned (.tuple #[.string r1,.agg #[.string r2,.string r3],.bool r4]) ∧ Below w.heap.size w w':=by
 have hu23:=Tryz.underlying23
 have HB:=aq (Below.refl w.heap.size w)
 have H : ((sr04_Fields.f a0).bind fun t140 => (if (t140.length : Int) = 3 then (if 0 < (t140.length : Int) then (if (rdOf ByteArray.empty t140 0).toList = ([99,108,97,115,115] : List UInt8) then (sr30_Read.j0 k t140 true) else (sr30_Read.j0 k t140 ((rdOf ByteArray.empty t140 0).toList == ([102,105,101,108,100] : List UInt8)))) else (none)) else (sr30_Read.j0 k t140 false))) = some (r1,r2,r3,r4):=h
 clear h
 replace H:=Option.bind_eq_some_iff.mp H
 obtain ⟨t140,A20,H⟩:=H
 have A2:=aq A20
 clear A20
 have HC3:=aq H
 clear H
 go_enter Tryz.func8,Tryz.ntmps8
 go_upto_region 2 with (first|((with_reducible refine gate_dst (N:=3) rfl ?_);(try (refine gate_guard (by rfl) ?_;dsimp only));refine box_event rfl (N:=3) rfl (cs:=#[.string (⟨#[]⟩ : ByteArray),.string (⟨#[]⟩ : ByteArray)]) (t:=23) gS ?_;intro gb139 hg w4 hbox hb;have BK139:=aq (hbox);have GE139:=aq ((GN hg : w.heap.size ≤ gb139));replace HB:=aq (below_step bH hb);clear hb hbox hg)|((with_reducible refine gate_callee (f:=21) rfl ?_);refine goesL_ (some 9) rfl rfl Tryz.func21 (by kernel_rfl) rfl #[.string a0] rfl eA ?_;(with_reducible refine (sr04_Fields.calls a0 t140 _ A2.out).mono ?_);rintro e w5 ⟨v141,rfl,ho0,hb⟩;refine ⟨_,rfl,?_⟩;have HO142:=aq (Kd.R_lower ho0 (below_size bH));replace BK139:=aq (blk_below (g:=gb139) (o:=.cells #[.string (⟨#[]⟩ : ByteArray),.string (⟨#[]⟩ : ByteArray)] 23 (0,0)) (KU BK139.out) hb);replace HB:=aq (below_step bH hb);(try clear hb);(try clear hb2);(try clear hk);(try clear hi);(try clear ho0)))
 (try simp only [Act.put,List.setIfInBounds_toArray,List.set_cons_zero,List.set_cons_succ])
 go_cut [24] (fun v24 wc => ∃ (kq : Nat) (x24_2 : Bool),v24 = .bool x24_2 ∧ Aside0 (sr30_Read.j0 kq t140 x24_2 = some (r1,r2,r3,r4)) ∧ Aside0 (kq ≤ k) ∧ Aside0 (Kd.R Kd.string 9 wc w.heap.size (fun _ => True) v141 t140) ∧ Aside0 (wc.heap[gb139]? = some (.cells #[.string (⟨#[]⟩ : ByteArray),.string (⟨#[]⟩ : ByteArray)] 23 (0,0))) ∧ Aside0 (Below w.heap.size w wc))
 case first =>
  have H:=HC3.out
  clear HC3
  by_cases c6 : (t140.length : Int) = 3
  rotate_left
  · rw [if_neg c6] at H
    have c6b0 : ((t140.length : Int) == 3) = false:=beq_eq_false_iff_ne.mpr c6
    have c6b1 : ((t140.length : Int) != 3) = true:=bne_iff_ne.mpr c6
    (first|rw [c6b0]|rw [c6b1]|(simp only [i64_w,i32_w];rw [c6b0])|skip)
    have H':=aq H
    clear H
    obtain ⟨Ao11,co11,eo11⟩:=Kd.R_slice HO142.out
    subst eo11
    go_wp2
    go_meet
    case rel => exact ⟨_,(false),eS,H',⟨by first|omega|exact Nat.le_refl _⟩,⟨by (with_reducible repeat (first|apply Kd.R_alloc|apply Kd.R_drewN|apply Kd.R_drew));exact HO142.out⟩,⟨KU BK139.out⟩,⟨bH⟩⟩
  rw [if_pos c6] at H
  have c6b0 : ((t140.length : Int) == 3) = true:=beq_iff_eq.mpr c6
  have c6b1 : ((t140.length : Int) != 3) = false:=bne_eq_false_iff_eq.mpr c6
  clear c6
  (first|rw [c6b0]|rw [c6b1]|(simp only [i64_w,i32_w];rw [c6b0])|skip)
  by_cases c7 : 0 < (t140.length : Int)
  rotate_left
  · rw [if_neg c7] at H
    exact absurd H (by simp)
  rw [if_pos c7] at H
  have c7b0 : decide (0 < (t140.length : Int)) = true:=decide_eq_true c7
  have c7b1 : decide (0 < t140.length) = true:=decide_eq_true (by omega)
  clear c7
  by_cases c8 : (rdOf ByteArray.empty t140 0).toList = ([99,108,97,115,115] : List UInt8)
  · rw [if_pos c8] at H
    have c8b0 : ((rdOf ByteArray.empty t140 0).toList == ([99,108,97,115,115] : List UInt8)) = true:=beq_iff_eq.mpr c8
    have c8b1 : ((rdOf ByteArray.empty t140 0).toList != ([99,108,97,115,115] : List UInt8)) = false:=bne_eq_false_iff_eq.mpr c8
    clear c8
    have H':=aq H
    clear H
    obtain ⟨Ao9,co9,eo9⟩:=Kd.R_slice HO142.out
    subst eo9
    have p143 : 0 ≤ (0 : Int):=(by omega)
    have q143 : 0 < (t140.length : Int):=of_decide_eq_true aS
    obtain ⟨ad143,e143,hx143_0⟩:=Kd.at_string (Kd.R_reads' HO142.out).2.2 0 p143 q143
    cases e143
    have qi143 : (0 < t140.length) = True:=eq_true (by omega)
    (try rw [show ((0 : Int)).toNat = 0 from rfl] at hx143_0)
    (try rw [Addr.add_zero'] at hx143_0)
    replace p143:=eq_true p143
    replace q143:=eq_true q143
    go_wp2
    go_meet
    case rel => exact ⟨_,(true),eS,H',⟨by first|omega|exact Nat.le_refl _⟩,⟨by (with_reducible repeat (first|apply Kd.R_alloc|apply Kd.R_drewN|apply Kd.R_drew));exact HO142.out⟩,⟨KU BK139.out⟩,⟨bH⟩⟩
  rw [if_neg c8] at H
  have c8b0 : ((rdOf ByteArray.empty t140 0).toList == ([99,108,97,115,115] : List UInt8)) = false:=beq_eq_false_iff_ne.mpr c8
  have c8b1 : ((rdOf ByteArray.empty t140 0).toList != ([99,108,97,115,115] : List UInt8)) = true:=bne_iff_ne.mpr c8
  have H':=aq H
  clear H
  obtain ⟨Ao10,co10,eo10⟩:=Kd.R_slice HO142.out
  subst eo10
  have p143 : 0 ≤ (0 : Int):=(by omega)
  have q143 : 0 < (t140.length : Int):=of_decide_eq_true aS
  obtain ⟨ad143,e143,hx143_0⟩:=Kd.at_string (Kd.R_reads' HO142.out).2.2 0 p143 q143
  cases e143
  have qi143 : (0 < t140.length) = True:=eq_true (by omega)
  (try rw [show ((0 : Int)).toNat = 0 from rfl] at hx143_0)
  (try rw [Addr.add_zero'] at hx143_0)
  replace p143:=eq_true p143
  replace q143:=eq_true q143
  have p144 : 0 ≤ (0 : Int):=(by omega)
  have q144 : 0 < (t140.length : Int):=of_decide_eq_true aS
  obtain ⟨ad144,e144,hx144_0⟩:=Kd.at_string (Kd.R_reads' HO142.out).2.2 0 p144 q144
  obtain rfl : ad143 = ad144:=(by injection e144)
  have qi144 : (0 < t140.length) = True:=eq_true (by omega)
  (try rw [show ((0 : Int)).toNat = 0 from rfl] at hx144_0)
  (try rw [Addr.add_zero'] at hx144_0)
  replace p144:=eq_true p144
  replace q144:=eq_true q144
  go_wp2
  go_meet
  case rel => exact ⟨_,(((rdOf ByteArray.empty t140 0).toList == ([102,105,101,108,100] : List UInt8))),eS,H',⟨by first|omega|exact Nat.le_refl _⟩,⟨by (with_reducible repeat (first|apply Kd.R_alloc|apply Kd.R_drewN|apply Kd.R_drew));exact HO142.out⟩,⟨KU BK139.out⟩,⟨bH⟩⟩
 case rest =>
 clear HC3
 obtain ⟨kq,x24_2,rfl,HA,HJ2,HO_5,BK139,HB⟩:=hcut
 cases kq with
 | zero => exact absurd HA.out (by simp [sr30_Read.j0])
 | succ kj2 =>
 have H:=HA.out
 clear HA
 simp only [sr30_Read.j0] at H
 by_cases c12 : x24_2 = true
 · subst c12
   have H1 : (if 0 < (t140.length : Int) then (if 1 < (t140.length : Int) then (if 2 < (t140.length : Int) then (some (rdOf ByteArray.empty t140 0,rdOf ByteArray.empty t140 1,rdOf ByteArray.empty t140 2,true)) else (none)) else (none)) else (none)) = some (r1,r2,r3,r4):=by rw [if_pos rfl] at H;exact H
   clear H
   have H:=H1
   clear H1
   by_cases c13 : 0 < (t140.length : Int)
   rotate_left
   · rw [if_neg c13] at H
     exact absurd H (by simp)
   rw [if_pos c13] at H
   have c13b0 : decide (0 < (t140.length : Int)) = true:=decide_eq_true c13
   have c13b1 : decide (0 < t140.length) = true:=decide_eq_true (by omega)
   clear c13
   by_cases c14 : 1 < (t140.length : Int)
   rotate_left
   · rw [if_neg c14] at H
     exact absurd H (by simp)
   rw [if_pos c14] at H
   have c14b0 : decide (1 < (t140.length : Int)) = true:=decide_eq_true c14
   have c14b1 : decide (1 < t140.length) = true:=decide_eq_true (by omega)
   clear c14
   by_cases c15 : 2 < (t140.length : Int)
   rotate_left
   · rw [if_neg c15] at H
     exact absurd H (by simp)
   rw [if_pos c15] at H
   have c15b0 : decide (2 < (t140.length : Int)) = true:=decide_eq_true c15
   have c15b1 : decide (2 < t140.length) = true:=decide_eq_true (by omega)
   clear c15
   simp only [Option.some.injEq,Prod.mk.injEq] at H
   obtain ⟨rfl,rfl,rfl,rfl⟩:=H
   try go_wp2
   replace HO_5:=aq (Kd.R_drew HO_5.out)
   replace BK139:=aq (blk_drew BK139.out)
   replace HB:=aq (below_drew1 HB.out)
   obtain ⟨Ao17,co17,eo17⟩:=Kd.R_slice HO_5.out
   (first|subst eo17|(injection eo17 with f1_ f2_ f3_;have f4_:=f1_.symm;have f5_:=f3_.symm;clear f1_ f2_ f3_;subst f4_;subst f5_))
   have p145 : 0 ≤ (0 : Int):=(by omega)
   have q145 : 0 < (t140.length : Int):=of_decide_eq_true aS
   obtain ⟨ad145,e145,hx145_0⟩:=Kd.at_string (Kd.R_reads' HO_5.out).2.2 0 p145 q145
   cases e145
   have qi145 : (0 < t140.length) = True:=eq_true (by omega)
   (try rw [show ((0 : Int)).toNat = 0 from rfl] at hx145_0)
   (try rw [Addr.add_zero'] at hx145_0)
   replace p145:=eq_true p145
   replace q145:=eq_true q145
   have p146 : 0 ≤ (1 : Int):=(by omega)
   have q146 : 1 < (t140.length : Int):=of_decide_eq_true aS
   obtain ⟨ad146,e146,hx146_0⟩:=Kd.at_string (Kd.R_reads' HO_5.out).2.2 1 p146 q146
   obtain rfl : ad145 = ad146:=(by injection e146)
   (try simp only [show (1 : Int).toNat = 1 from rfl,Nat.reduceMul,Nat.reduceEqDiff,Go.Addr.add,↓reduceIte] at hx146_0)
   have qi146 : (1 < t140.length) = True:=eq_true (by omega)
   (try rw [show ((1 : Int)).toNat = 1 from rfl] at hx146_0)
   replace p146:=eq_true p146
   replace q146:=eq_true q146
   have p147 : 0 ≤ (2 : Int):=(by omega)
   have q147 : 2 < (t140.length : Int):=of_decide_eq_true aS
   obtain ⟨ad147,e147,hx147_0⟩:=Kd.at_string (Kd.R_reads' HO_5.out).2.2 2 p147 q147
   obtain rfl : ad145 = ad147:=(by injection e147)
   (try simp only [show (2 : Int).toNat = 2 from rfl,Nat.reduceMul,Nat.reduceEqDiff,Go.Addr.add,↓reduceIte] at hx147_0)
   have qi147 : (2 < t140.length) = True:=eq_true (by omega)
   (try rw [show ((2 : Int)).toNat = 2 from rfl] at hx147_0)
   replace p147:=eq_true p147
   replace q147:=eq_true q147
   refine start_ (n:=13) (S:=fun w' => w'.cell? ad145 = some (.string (rdOf ByteArray.empty t140 0)) ∧ w'.cell? ⟨ad145.block,ad145.off + 1,none⟩ = some (.string (rdOf ByteArray.empty t140 1)) ∧ w'.cell? ⟨ad145.block,ad145.off + 2,none⟩ = some (.string (rdOf ByteArray.empty t140 2))) (ds:=[]) #[false,false,false,false,false,false,false,false,false,false,false,false,false] (by kernel_rfl) rfl rfl ⟨hx145_0,hx146_0,hx147_0⟩ (fun hHeld => ?_);refine with_tabW sr30_Read.tab3 sr30_Read.bits3 (fun HT_ HW_ => ?_)
   generalize wc.drew = w16 at HO_5 BK139 HB hx145_0 hx146_0 hx147_0 hHeld ⊢
   refine pS (i:=0) (N:=some 25) ?_
   refine pS (i:=1) (N:=some 26) ?_
   refine pS (i:=3) (N:=some 28) ?_
   refine pS (i:=4) (N:=some 29) ?_
   refine pS (i:=6) (N:=some 31) ?_
   refine pS (i:=7) (N:=some 32) ?_
   refine tS (i:=2) (N:=some 27) rfl rfl hHeld HT_.out HW_.out (by kernel_rfl) (Or.inl ⟨by rfl,by rintro w' ⟨s0,s1,s2⟩;go_simp;with_reducible rfl⟩) ?_
   refine pS (i:=10) (N:=some 2) ?_
   refine tS (i:=5) (N:=some 30) rfl rfl hHeld HT_.out HW_.out (by kernel_rfl) (Or.inl ⟨by rfl,by rintro w' ⟨s0,s1,s2⟩;go_simp;with_reducible rfl⟩) ?_
   refine tS (i:=8) (N:=some 33) rfl rfl hHeld HT_.out HW_.out (by kernel_rfl) (Or.inl ⟨by rfl,by rintro w' ⟨s0,s1,s2⟩;go_simp;with_reducible rfl⟩) ?_
   refine pS (i:=9) (N:=some 34) ?_
   refine one_ (i:=11) (N:=none) #[true,true,true,true,true,true,true,true,true,true,true,true,false] rfl rfl (one_of HT_.out (by kernel_rfl)) (by decide) (fun K hK => ?_)
   have hs18 : w16.cell? ⟨gb139,0,none⟩ = some (.string (⟨#[]⟩ : ByteArray)):=(blk_cell BK139.out 0).trans rfl
   have hfs18:=blk_frozen BK139.out 0
   have hs19 : w16.cell? ⟨gb139,1,none⟩ = some (.string (⟨#[]⟩ : ByteArray)):=(blk_cell BK139.out 1).trans rfl
   have hfs19:=blk_frozen BK139.out 1
   refine skip_ (w1:=?_) (by rfl) rfl ?_ ?_
   rotate_left
   · go_simp
     rfl
   refine hK.out _ _ ⟨((cell_far (p:=⟨gb139,_,none⟩) (by first|exact Kd.own_blk (Kd.R_ne HO_5.out BK139.out (by decide))|(rw [add_block];exact Kd.own_blk (Kd.R_ne HO_5.out BK139.out (by decide)))|(show (Addr.add _ _).block ≠ _;rw [add_block];exact Kd.own_blk (Kd.R_ne HO_5.out BK139.out (by decide)))|(dsimp only;exact Kd.own_blk (Kd.R_ne HO_5.out BK139.out (by decide)))) _).trans (((cell_far (p:=⟨gb139,_,none⟩) (by first|exact Kd.own_blk (Kd.R_ne HO_5.out BK139.out (by decide))|(rw [add_block];exact Kd.own_blk (Kd.R_ne HO_5.out BK139.out (by decide)))|(show (Addr.add _ _).block ≠ _;rw [add_block];exact Kd.own_blk (Kd.R_ne HO_5.out BK139.out (by decide)))|(dsimp only;exact Kd.own_blk (Kd.R_ne HO_5.out BK139.out (by decide)))) _).trans (hHeld.1)))),((cell_far (p:=⟨gb139,_,none⟩) (by first|exact Kd.own_blk (Kd.R_ne HO_5.out BK139.out (by decide))|(rw [add_block];exact Kd.own_blk (Kd.R_ne HO_5.out BK139.out (by decide)))|(show (Addr.add _ _).block ≠ _;rw [add_block];exact Kd.own_blk (Kd.R_ne HO_5.out BK139.out (by decide)))|(dsimp only;exact Kd.own_blk (Kd.R_ne HO_5.out BK139.out (by decide)))) _).trans (((cell_far (p:=⟨gb139,_,none⟩) (by first|exact Kd.own_blk (Kd.R_ne HO_5.out BK139.out (by decide))|(rw [add_block];exact Kd.own_blk (Kd.R_ne HO_5.out BK139.out (by decide)))|(show (Addr.add _ _).block ≠ _;rw [add_block];exact Kd.own_blk (Kd.R_ne HO_5.out BK139.out (by decide)))|(dsimp only;exact Kd.own_blk (Kd.R_ne HO_5.out BK139.out (by decide)))) _).trans (hHeld.2.1)))),((cell_far (p:=⟨gb139,_,none⟩) (by first|exact Kd.own_blk (Kd.R_ne HO_5.out BK139.out (by decide))|(rw [add_block];exact Kd.own_blk (Kd.R_ne HO_5.out BK139.out (by decide)))|(show (Addr.add _ _).block ≠ _;rw [add_block];exact Kd.own_blk (Kd.R_ne HO_5.out BK139.out (by decide)))|(dsimp only;exact Kd.own_blk (Kd.R_ne HO_5.out BK139.out (by decide)))) _).trans (((cell_far (p:=⟨gb139,_,none⟩) (by first|exact Kd.own_blk (Kd.R_ne HO_5.out BK139.out (by decide))|(rw [add_block];exact Kd.own_blk (Kd.R_ne HO_5.out BK139.out (by decide)))|(show (Addr.add _ _).block ≠ _;rw [add_block];exact Kd.own_blk (Kd.R_ne HO_5.out BK139.out (by decide)))|(dsimp only;exact Kd.own_blk (Kd.R_ne HO_5.out BK139.out (by decide)))) _).trans (hHeld.2.2))))⟩ (fun hHeld => ?_)
   clear hK K
   refine pS (i:=12) (N:=some 4) ?_
   refine done_ (done_of HT_.out (by kernel_rfl)) ?_
   try go_wp2
   refine bodyPost_ret (results_list (rs:=[.tmp 2,.cell 3 23,.tmp 4]) rfl (by simp) (.tmp (.cell gb139 23 #[.string (rdOf ByteArray.empty t140 1),.string (rdOf ByteArray.empty t140 2)] (0,0) _ rfl (by refine KU ?_;refine blk_put (cs:=#[.string (rdOf ByteArray.empty t140 1),.string (⟨#[]⟩ : ByteArray)]) ?_ 1 _ rfl;refine KU ?_;refine blk_put (cs:=#[.string (⟨#[]⟩ : ByteArray),.string (⟨#[]⟩ : ByteArray)]) ?_ 0 _ rfl;refine KU ?_;exact BK139.out) Tryz.underlying23 rfl (by kernel_rfl) (.tmp .nil)))) rfl ?_
   exact ⟨eR,bH⟩
 replace c12:=Bool.eq_false_iff.mpr c12
 subst c12
 have H1 : (if (t140.length : Int) = 4 then (if 0 < (t140.length : Int) then (if (rdOf ByteArray.empty t140 0).toList = ([109,101,116,104,111,100] : List UInt8) then (if 2 < (t140.length : Int) then (if ((rdOf ByteArray.empty t140 2).size : Int) > 0 then (if 0 < ((rdOf ByteArray.empty t140 2).size : Int) then (sr30_Read.j1 kj2 t140 ((bt (rdOf ByteArray.empty t140 2) 0) == 40)) else (none)) else (sr30_Read.j1 kj2 t140 false)) else (none)) else (sr30_Read.j1 kj2 t140 false)) else (none)) else (sr30_Read.j1 kj2 t140 false)) = some (r1,r2,r3,r4):=by rw [if_neg (show ¬ (false = true) by decide)] at H;exact H
 clear H
 have H:=H1
 clear H1
 have HC20:=aq H
 clear H
 go_upto_region 4 with (fail)
 go_cut [57] (fun v57 wc => ∃ (kq : Nat) (x57_19 : Bool),v57 = .bool x57_19 ∧ Aside0 (sr30_Read.j1 kq t140 x57_19 = some (r1,r2,r3,r4)) ∧ Aside0 (kq ≤ kj2) ∧ Aside0 (Kd.R Kd.string 9 wc w.heap.size (fun _ => True) v141 t140) ∧ Aside0 (wc.heap[gb139]? = some (.cells #[.string (⟨#[]⟩ : ByteArray),.string (⟨#[]⟩ : ByteArray)] 23 (0,0))) ∧ Aside0 (Below w.heap.size w wc))
 case first =>
  have H:=HC20.out
  clear HC20
  by_cases c21 : (t140.length : Int) = 4
  rotate_left
  · rw [if_neg c21] at H
    have c21b0 : ((t140.length : Int) == 4) = false:=beq_eq_false_iff_ne.mpr c21
    have c21b1 : ((t140.length : Int) != 4) = true:=bne_iff_ne.mpr c21
    (first|rw [c21b0]|rw [c21b1]|(simp only [i64_w,i32_w];rw [c21b0])|skip)
    have H':=aq H
    clear H
    obtain ⟨Ao31,co31,eo31⟩:=Kd.R_slice HO_5.out
    subst eo31
    go_wp2
    go_meet
    case rel => exact ⟨_,(false),eS,H',⟨by have:=HJ2.out;first|omega|exact Nat.le_refl _⟩,⟨by (with_reducible repeat (first|apply Kd.R_alloc|apply Kd.R_drewN|apply Kd.R_drew));exact HO_5.out⟩,⟨KU BK139.out⟩,⟨bH⟩⟩
  rw [if_pos c21] at H
  have c21b0 : ((t140.length : Int) == 4) = true:=beq_iff_eq.mpr c21
  have c21b1 : ((t140.length : Int) != 4) = false:=bne_eq_false_iff_eq.mpr c21
  clear c21
  (first|rw [c21b0]|rw [c21b1]|(simp only [i64_w,i32_w];rw [c21b0])|skip)
  by_cases c22 : 0 < (t140.length : Int)
  rotate_left
  · rw [if_neg c22] at H
    exact absurd H (by simp)
  rw [if_pos c22] at H
  have c22b0 : decide (0 < (t140.length : Int)) = true:=decide_eq_true c22
  have c22b1 : decide (0 < t140.length) = true:=decide_eq_true (by omega)
  clear c22
  by_cases c23 : (rdOf ByteArray.empty t140 0).toList = ([109,101,116,104,111,100] : List UInt8)
  rotate_left
  · rw [if_neg c23] at H
    have c23b0 : ((rdOf ByteArray.empty t140 0).toList == ([109,101,116,104,111,100] : List UInt8)) = false:=beq_eq_false_iff_ne.mpr c23
    have c23b1 : ((rdOf ByteArray.empty t140 0).toList != ([109,101,116,104,111,100] : List UInt8)) = true:=bne_iff_ne.mpr c23
    have H':=aq H
    clear H
    obtain ⟨Ao30,co30,eo30⟩:=Kd.R_slice HO_5.out
    subst eo30
    have p148 : 0 ≤ (0 : Int):=(by omega)
    have q148 : 0 < (t140.length : Int):=of_decide_eq_true aS
    obtain ⟨ad148,e148,hx148_0⟩:=Kd.at_string (Kd.R_reads' HO_5.out).2.2 0 p148 q148
    cases e148
    have qi148 : (0 < t140.length) = True:=eq_true (by omega)
    (try rw [show ((0 : Int)).toNat = 0 from rfl] at hx148_0)
    (try rw [Addr.add_zero'] at hx148_0)
    replace p148:=eq_true p148
    replace q148:=eq_true q148
    go_wp2
    go_meet
    case rel => exact ⟨_,(false),eS,H',⟨by have:=HJ2.out;first|omega|exact Nat.le_refl _⟩,⟨by (with_reducible repeat (first|apply Kd.R_alloc|apply Kd.R_drewN|apply Kd.R_drew));exact HO_5.out⟩,⟨KU BK139.out⟩,⟨bH⟩⟩
  rw [if_pos c23] at H
  have c23b0 : ((rdOf ByteArray.empty t140 0).toList == ([109,101,116,104,111,100] : List UInt8)) = true:=beq_iff_eq.mpr c23
  have c23b1 : ((rdOf ByteArray.empty t140 0).toList != ([109,101,116,104,111,100] : List UInt8)) = false:=bne_eq_false_iff_eq.mpr c23
  clear c23
  by_cases c24 : 2 < (t140.length : Int)
  rotate_left
  · rw [if_neg c24] at H
    exact absurd H (by simp)
  rw [if_pos c24] at H
  have c24b0 : decide (2 < (t140.length : Int)) = true:=decide_eq_true c24
  have c24b1 : decide (2 < t140.length) = true:=decide_eq_true (by omega)
  clear c24
  by_cases c25 : ((rdOf ByteArray.empty t140 2).size : Int) > 0
  rotate_left
  · rw [if_neg c25] at H
    have c25b0 : decide (0 < ((rdOf ByteArray.empty t140 2).size : Int)) = false:=decide_eq_false c25
    have c25b1 : decide (0 < (rdOf ByteArray.empty t140 2).size) = false:=decide_eq_false (by omega)
    clear c25
    have H':=aq H
    clear H
    obtain ⟨Ao29,co29,eo29⟩:=Kd.R_slice HO_5.out
    subst eo29
    have p148 : 0 ≤ (0 : Int):=(by omega)
    have q148 : 0 < (t140.length : Int):=of_decide_eq_true aS
    obtain ⟨ad148,e148,hx148_0⟩:=Kd.at_string (Kd.R_reads' HO_5.out).2.2 0 p148 q148
    cases e148
    have qi148 : (0 < t140.length) = True:=eq_true (by omega)
    (try rw [show ((0 : Int)).toNat = 0 from rfl] at hx148_0)
    (try rw [Addr.add_zero'] at hx148_0)
    replace p148:=eq_true p148
    replace q148:=eq_true q148
    have p149 : 0 ≤ (2 : Int):=(by omega)
    have q149 : 2 < (t140.length : Int):=of_decide_eq_true aS
    obtain ⟨ad149,e149,hx149_0⟩:=Kd.at_string (Kd.R_reads' HO_5.out).2.2 2 p149 q149
    obtain rfl : ad148 = ad149:=(by injection e149)
    (try simp only [show (2 : Int).toNat = 2 from rfl,Nat.reduceMul,Nat.reduceEqDiff,Go.Addr.add,↓reduceIte] at hx149_0)
    have qi149 : (2 < t140.length) = True:=eq_true (by omega)
    (try rw [show ((2 : Int)).toNat = 2 from rfl] at hx149_0)
    replace p149:=eq_true p149
    replace q149:=eq_true q149
    go_wp2
    go_meet
    case rel => exact ⟨_,(false),eS,H',⟨by have:=HJ2.out;first|omega|exact Nat.le_refl _⟩,⟨by (with_reducible repeat (first|apply Kd.R_alloc|apply Kd.R_drewN|apply Kd.R_drew));exact HO_5.out⟩,⟨KU BK139.out⟩,⟨bH⟩⟩
  rw [if_pos c25] at H
  have c25b0 : decide (0 < ((rdOf ByteArray.empty t140 2).size : Int)) = true:=decide_eq_true c25
  have c25b1 : decide (0 < (rdOf ByteArray.empty t140 2).size) = true:=decide_eq_true (by omega)
  clear c25
  by_cases c26 : 0 < ((rdOf ByteArray.empty t140 2).size : Int)
  rotate_left
  · rw [if_neg c26] at H
    exact absurd H (by simp)
  rw [if_pos c26] at H
  have c26b0 : decide (0 < ((rdOf ByteArray.empty t140 2).size : Int)) = true:=decide_eq_true c26
  have c26b1 : decide (0 < (rdOf ByteArray.empty t140 2).size) = true:=decide_eq_true (by omega)
  clear c26
  have H':=aq H
  clear H
  obtain ⟨Ao28,co28,eo28⟩:=Kd.R_slice HO_5.out
  subst eo28
  have p148 : 0 ≤ (0 : Int):=(by omega)
  have q148 : 0 < (t140.length : Int):=of_decide_eq_true aS
  obtain ⟨ad148,e148,hx148_0⟩:=Kd.at_string (Kd.R_reads' HO_5.out).2.2 0 p148 q148
  cases e148
  have qi148 : (0 < t140.length) = True:=eq_true (by omega)
  (try rw [show ((0 : Int)).toNat = 0 from rfl] at hx148_0)
  (try rw [Addr.add_zero'] at hx148_0)
  replace p148:=eq_true p148
  replace q148:=eq_true q148
  have p149 : 0 ≤ (2 : Int):=(by omega)
  have q149 : 2 < (t140.length : Int):=of_decide_eq_true aS
  obtain ⟨ad149,e149,hx149_0⟩:=Kd.at_string (Kd.R_reads' HO_5.out).2.2 2 p149 q149
  obtain rfl : ad148 = ad149:=(by injection e149)
  (try simp only [show (2 : Int).toNat = 2 from rfl,Nat.reduceMul,Nat.reduceEqDiff,Go.Addr.add,↓reduceIte] at hx149_0)
  have qi149 : (2 < t140.length) = True:=eq_true (by omega)
  (try rw [show ((2 : Int)).toNat = 2 from rfl] at hx149_0)
  replace p149:=eq_true p149
  replace q149:=eq_true q149
  have p150 : 0 ≤ (2 : Int):=(by omega)
  have q150 : 2 < (t140.length : Int):=of_decide_eq_true aS
  obtain ⟨ad150,e150,hx150_0⟩:=Kd.at_string (Kd.R_reads' HO_5.out).2.2 2 p150 q150
  obtain rfl : ad148 = ad150:=(by injection e150)
  (try simp only [show (2 : Int).toNat = 2 from rfl,Nat.reduceMul,Nat.reduceEqDiff,Go.Addr.add,↓reduceIte] at hx150_0)
  have qi150 : (2 < t140.length) = True:=eq_true (by omega)
  (try rw [show ((2 : Int)).toNat = 2 from rfl] at hx150_0)
  replace p150:=eq_true p150
  replace q150:=eq_true q150
  have p27 : 0 ≤ (0 : Int):=(by omega)
  have q27 : 0 < (rdOf ByteArray.empty t140 2).size:=(by have : (0 : Int) < ((rdOf ByteArray.empty t140 2).size : Int):=of_decide_eq_true aS;omega)
  have hx27 : ∀ h : 0 < (rdOf ByteArray.empty t140 2).size,(((rdOf ByteArray.empty t140 2)[0]'h).toNat : Int) = bt (rdOf ByteArray.empty t140 2) 0:=bt_at (rdOf ByteArray.empty t140 2) 0
  clear p27
  have qi27 : (0 < ((rdOf ByteArray.empty t140 2).size : Int)) = True:=eq_true (of_decide_eq_true aS)
  replace q27:=eq_true q27
  go_wp2
  go_meet
  case rel => exact ⟨_,(((bt (rdOf ByteArray.empty t140 2) 0) == 40)),eS,H',⟨by have:=HJ2.out;first|omega|exact Nat.le_refl _⟩,⟨by (with_reducible repeat (first|apply Kd.R_alloc|apply Kd.R_drewN|apply Kd.R_drew));exact HO_5.out⟩,⟨KU BK139.out⟩,⟨bH⟩⟩
 case rest =>
 clear HC20
 try clear c12
 obtain ⟨kq,x57_19,rfl,HA,HJ19,HO_5,BK139,HB⟩:=hcut
 cases kq with
 | zero => exact absurd HA.out (by simp [sr30_Read.j1])
 | succ kj19 =>
 have H:=HA.out
 clear HA
 simp only [sr30_Read.j1] at H
 by_cases c32 : x57_19 = true
 rotate_left
 · replace c32:=Bool.eq_false_iff.mpr c32
   subst c32
   have H1 : (some ((⟨#[]⟩ : ByteArray),(⟨#[]⟩ : ByteArray),(⟨#[]⟩ : ByteArray),false)) = some (r1,r2,r3,r4):=by rw [if_neg (show ¬ (false = true) by decide)] at H;exact H
   clear H
   have H:=H1
   clear H1
   simp only [Option.some.injEq,Prod.mk.injEq] at H
   obtain ⟨rfl,rfl,rfl,rfl⟩:=H
   have hcz46_0 : wc.cell? ⟨gb139,0,none⟩ = some (.string (⟨#[]⟩ : ByteArray)):=(blk_cell BK139.out 0).trans rfl
   have hcz46_1 : wc.cell? ⟨gb139,1,none⟩ = some (.string (⟨#[]⟩ : ByteArray)):=(blk_cell BK139.out 1).trans rfl
   have hfz46_0:=blk_frozen BK139.out 0
   have hfz46_1:=blk_frozen BK139.out 1
   go_wp2
   refine bodyPost_ret (results_list (rs:=[.tmp 2,.cell 3 23,.tmp 4]) rfl (by simp) (.tmp (.cell gb139 23 #[.string (⟨#[]⟩ : ByteArray),.string (⟨#[]⟩ : ByteArray)] (0,0) _ rfl (by refine KU ?_;refine blk_put (cs:=#[.string (⟨#[]⟩ : ByteArray),.string (⟨#[]⟩ : ByteArray)]) ?_ 1 _ rfl;refine KU ?_;refine blk_put (cs:=#[.string (⟨#[]⟩ : ByteArray),.string (⟨#[]⟩ : ByteArray)]) ?_ 0 _ rfl;refine KU ?_;exact BK139.out) Tryz.underlying23 rfl (by kernel_rfl) (.tmp .nil)))) rfl ?_
   exact ⟨eR,bH⟩
 subst c32
 have H1 : (if 1 < (t140.length : Int) then ((sr30_cut.f kj19 (rdOf ByteArray.empty t140 1)).bind fun bt152 => (if bt152.2.toList = ([] : List UInt8) then (if 0 < (t140.length : Int) then (if 2 < (t140.length : Int) then (if (rdOf ByteArray.empty t140 1).size + (rdOf ByteArray.empty t140 2).size ≤ 9223372036854775807 then (if 3 < (t140.length : Int) then (some (rdOf ByteArray.empty t140 0,(rdOf ByteArray.empty t140 1) ++ (rdOf ByteArray.empty t140 2),rdOf ByteArray.empty t140 3,true)) else (none)) else (none)) else (none)) else (none)) else (some ((⟨#[]⟩ : ByteArray),(⟨#[]⟩ : ByteArray),(⟨#[]⟩ : ByteArray),false)))) else (none)) = some (r1,r2,r3,r4):=by rw [if_pos rfl] at H;exact H
 clear H
 have H:=H1
 clear H1
 by_cases c33 : 1 < (t140.length : Int)
 rotate_left
 · rw [if_neg c33] at H
   exact absurd H (by simp)
 rw [if_pos c33] at H
 have c33b0 : decide (1 < (t140.length : Int)) = true:=decide_eq_true c33
 have c33b1 : decide (1 < t140.length) = true:=decide_eq_true (by omega)
 clear c33
 replace H:=Option.bind_eq_some_iff.mp H
 obtain ⟨⟨t152,t153⟩,A340,H⟩:=H
 replace H : (if t153.toList = ([] : List UInt8) then (if 0 < (t140.length : Int) then (if 2 < (t140.length : Int) then (if (rdOf ByteArray.empty t140 1).size + (rdOf ByteArray.empty t140 2).size ≤ 9223372036854775807 then (if 3 < (t140.length : Int) then (some (rdOf ByteArray.empty t140 0,(rdOf ByteArray.empty t140 1) ++ (rdOf ByteArray.empty t140 2),rdOf ByteArray.empty t140 3,true)) else (none)) else (none)) else (none)) else (none)) else (some ((⟨#[]⟩ : ByteArray),(⟨#[]⟩ : ByteArray),(⟨#[]⟩ : ByteArray),false))) = some (r1,r2,r3,r4):=H
 have A34:=aq A340
 clear A340
 by_cases c35 : t153.toList = ([] : List UInt8)
 rotate_left
 · rw [if_neg c35] at H
   have c35b0 : (t153.toList == ([] : List UInt8)) = false:=beq_eq_false_iff_ne.mpr c35
   have c35b1 : (t153.toList != ([] : List UInt8)) = true:=bne_iff_ne.mpr c35
   simp only [Option.some.injEq,Prod.mk.injEq] at H
   obtain ⟨rfl,rfl,rfl,rfl⟩:=H
   obtain ⟨Ao44,co44,eo44⟩:=Kd.R_slice HO_5.out
   subst eo44
   have p151 : 0 ≤ (1 : Int):=(by omega)
   have q151 : 1 < (t140.length : Int):=of_decide_eq_true aS
   obtain ⟨ad151,e151,hx151_0⟩:=Kd.at_string (Kd.R_reads' HO_5.out).2.2 1 p151 q151
   cases e151
   (try simp only [show (1 : Int).toNat = 1 from rfl,Nat.reduceMul,Nat.reduceEqDiff,Go.Addr.add,↓reduceIte] at hx151_0)
   have qi151 : (1 < t140.length) = True:=eq_true (by omega)
   (try rw [show ((1 : Int)).toNat = 1 from rfl] at hx151_0)
   replace p151:=eq_true p151
   replace q151:=eq_true q151
   go_wp2_with (first|((with_reducible refine gate_callee (f:=22) rfl ?_);refine goesL_ (some 62) rfl rfl Tryz.func22 (by kernel_rfl) rfl #[.string (rdOf ByteArray.empty t140 1)] rfl eA ?_;(with_reducible refine (sr30_cut.calls kj19 (rdOf ByteArray.empty t140 1) t152 t153 _ A34.out).mono ?_);rintro e w' ⟨rfl,⟨nd,rfl⟩⟩;refine ⟨_,rfl,?_⟩;(try (rw [drewN_self wc];generalize hq_ : World.drewN wc _ = wc;have n0_ : Aside0 (Kd.R Kd.string 9 wc w.heap.size (fun _ => True) (.slice (some ad151) t140.length co44) t140):=⟨by rw [← hq_];exact (RU HO_5.out)⟩;have n1_ : Aside0 (wc.heap[gb139]? = some (.cells #[.string (⟨#[]⟩ : ByteArray),.string (⟨#[]⟩ : ByteArray)] 23 (0,0))):=⟨by rw [← hq_];exact (KU BK139.out)⟩;have n2_ : Aside0 (Below w.heap.size w wc):=⟨by rw [← hq_];exact bH⟩;clear HO_5 BK139 HB hq_;have HO_5:=n0_;have BK139:=n1_;have HB:=n2_;clear n0_ n1_ n2_));have hcz45_0 : wc.cell? ⟨gb139,0,none⟩ = some (.string (⟨#[]⟩ : ByteArray)):=(blk_cell BK139.out 0).trans rfl;have hcz45_1 : wc.cell? ⟨gb139,1,none⟩ = some (.string (⟨#[]⟩ : ByteArray)):=(blk_cell BK139.out 1).trans rfl;have hfz45_0:=blk_frozen BK139.out 0;have hfz45_1:=blk_frozen BK139.out 1))
   refine bodyPost_ret (results_list (rs:=[.tmp 2,.cell 3 23,.tmp 4]) rfl (by simp) (.tmp (.cell gb139 23 #[.string (⟨#[]⟩ : ByteArray),.string (⟨#[]⟩ : ByteArray)] (0,0) _ rfl (by refine KU ?_;refine blk_put (cs:=#[.string (⟨#[]⟩ : ByteArray),.string (⟨#[]⟩ : ByteArray)]) ?_ 1 _ rfl;refine KU ?_;refine blk_put (cs:=#[.string (⟨#[]⟩ : ByteArray),.string (⟨#[]⟩ : ByteArray)]) ?_ 0 _ rfl;refine KU ?_;exact BK139.out) Tryz.underlying23 rfl (by kernel_rfl) (.tmp .nil)))) rfl ?_
   exact ⟨eR,bH⟩
 rw [if_pos c35] at H
 have c35b0 : (t153.toList == ([] : List UInt8)) = true:=beq_iff_eq.mpr c35
 have c35b1 : (t153.toList != ([] : List UInt8)) = false:=bne_eq_false_iff_eq.mpr c35
 clear c35
 by_cases c36 : 0 < (t140.length : Int)
 rotate_left
 · rw [if_neg c36] at H
   exact absurd H (by simp)
 rw [if_pos c36] at H
 have c36b0 : decide (0 < (t140.length : Int)) = true:=decide_eq_true c36
 have c36b1 : decide (0 < t140.length) = true:=decide_eq_true (by omega)
 clear c36
 by_cases c37 : 2 < (t140.length : Int)
 rotate_left
 · rw [if_neg c37] at H
   exact absurd H (by simp)
 rw [if_pos c37] at H
 have c37b0 : decide (2 < (t140.length : Int)) = true:=decide_eq_true c37
 have c37b1 : decide (2 < t140.length) = true:=decide_eq_true (by omega)
 clear c37
 by_cases c38 : (rdOf ByteArray.empty t140 1).size + (rdOf ByteArray.empty t140 2).size ≤ 9223372036854775807
 rotate_left
 · rw [if_neg c38] at H
   exact absurd H (by simp)
 rw [if_pos c38] at H
 have c38b0:=eq_true c38
 have c38b1 : decide ((rdOf ByteArray.empty t140 1).size + (rdOf ByteArray.empty t140 2).size ≤ 9223372036854775807) = true:=decide_eq_true c38
 try have c38b2 : (9223372036854775807 < (rdOf ByteArray.empty t140 1).size + (rdOf ByteArray.empty t140 2).size) = False:=eq_false (Nat.not_lt.2 c38)
 by_cases c39 : 3 < (t140.length : Int)
 rotate_left
 · rw [if_neg c39] at H
   exact absurd H (by simp)
 rw [if_pos c39] at H
 have c39b0 : decide (3 < (t140.length : Int)) = true:=decide_eq_true c39
 have c39b1 : decide (3 < t140.length) = true:=decide_eq_true (by omega)
 clear c39
 simp only [Option.some.injEq,Prod.mk.injEq] at H
 obtain ⟨rfl,rfl,rfl,rfl⟩:=H
 obtain ⟨Ao40,co40,eo40⟩:=Kd.R_slice HO_5.out
 subst eo40
 have p151 : 0 ≤ (1 : Int):=(by omega)
 have q151 : 1 < (t140.length : Int):=of_decide_eq_true aS
 obtain ⟨ad151,e151,hx151_0⟩:=Kd.at_string (Kd.R_reads' HO_5.out).2.2 1 p151 q151
 cases e151
 (try simp only [show (1 : Int).toNat = 1 from rfl,Nat.reduceMul,Nat.reduceEqDiff,Go.Addr.add,↓reduceIte] at hx151_0)
 have qi151 : (1 < t140.length) = True:=eq_true (by omega)
 (try rw [show ((1 : Int)).toNat = 1 from rfl] at hx151_0)
 replace p151:=eq_true p151
 replace q151:=eq_true q151
 try go_wp2_with (first|((with_reducible refine gate_callee (f:=22) rfl ?_);refine goesL_ (some 62) rfl rfl Tryz.func22 (by kernel_rfl) rfl #[.string (rdOf ByteArray.empty t140 1)] rfl eA ?_;(with_reducible refine (sr30_cut.calls kj19 (rdOf ByteArray.empty t140 1) t152 t153 _ A34.out).mono ?_);rintro e w' ⟨rfl,⟨nd,rfl⟩⟩;refine ⟨_,rfl,?_⟩;(try (rw [drewN_self wc];generalize hq_ : World.drewN wc _ = wc;have n0_ : Aside0 (Kd.R Kd.string 9 wc w.heap.size (fun _ => True) (.slice (some ad151) t140.length co40) t140):=⟨by rw [← hq_];exact (RU HO_5.out)⟩;have n1_ : Aside0 (wc.heap[gb139]? = some (.cells #[.string (⟨#[]⟩ : ByteArray),.string (⟨#[]⟩ : ByteArray)] 23 (0,0))):=⟨by rw [← hq_];exact (KU BK139.out)⟩;have n2_ : Aside0 (Below w.heap.size w wc):=⟨by rw [← hq_];exact bH⟩;clear HO_5 BK139 HB hq_;have HO_5:=n0_;have BK139:=n1_;have HB:=n2_;clear n0_ n1_ n2_))))
 replace HO_5:=aq (Kd.R_drew HO_5.out)
 replace BK139:=aq (blk_drew BK139.out)
 replace HB:=aq (below_drew1 HB.out)
 have p154 : 0 ≤ (0 : Int):=(by omega)
 have q154 : 0 < (t140.length : Int):=of_decide_eq_true aS
 obtain ⟨ad154,e154,hx154_0⟩:=Kd.at_string (Kd.R_reads' HO_5.out).2.2 0 p154 q154
 obtain rfl : ad151 = ad154:=(by injection e154)
 have qi154 : (0 < t140.length) = True:=eq_true (by omega)
 (try rw [show ((0 : Int)).toNat = 0 from rfl] at hx154_0)
 (try rw [Addr.add_zero'] at hx154_0)
 replace p154:=eq_true p154
 replace q154:=eq_true q154
 have p155 : 0 ≤ (1 : Int):=(by omega)
 have q155 : 1 < (t140.length : Int):=of_decide_eq_true aS
 obtain ⟨ad155,e155,hx155_0⟩:=Kd.at_string (Kd.R_reads' HO_5.out).2.2 1 p155 q155
 obtain rfl : ad151 = ad155:=(by injection e155)
 (try simp only [show (1 : Int).toNat = 1 from rfl,Nat.reduceMul,Nat.reduceEqDiff,Go.Addr.add,↓reduceIte] at hx155_0)
 have qi155 : (1 < t140.length) = True:=eq_true (by omega)
 (try rw [show ((1 : Int)).toNat = 1 from rfl] at hx155_0)
 replace p155:=eq_true p155
 replace q155:=eq_true q155
 have p156 : 0 ≤ (2 : Int):=(by omega)
 have q156 : 2 < (t140.length : Int):=of_decide_eq_true aS
 obtain ⟨ad156,e156,hx156_0⟩:=Kd.at_string (Kd.R_reads' HO_5.out).2.2 2 p156 q156
 obtain rfl : ad151 = ad156:=(by injection e156)
 (try simp only [show (2 : Int).toNat = 2 from rfl,Nat.reduceMul,Nat.reduceEqDiff,Go.Addr.add,↓reduceIte] at hx156_0)
 have qi156 : (2 < t140.length) = True:=eq_true (by omega)
 (try rw [show ((2 : Int)).toNat = 2 from rfl] at hx156_0)
 replace p156:=eq_true p156
 replace q156:=eq_true q156
 have p157 : 0 ≤ (3 : Int):=(by omega)
 have q157 : 3 < (t140.length : Int):=of_decide_eq_true aS
 obtain ⟨ad157,e157,hx157_0⟩:=Kd.at_string (Kd.R_reads' HO_5.out).2.2 3 p157 q157
 obtain rfl : ad151 = ad157:=(by injection e157)
 (try simp only [show (3 : Int).toNat = 3 from rfl,Nat.reduceMul,Nat.reduceEqDiff,Go.Addr.add,↓reduceIte] at hx157_0)
 have qi157 : (3 < t140.length) = True:=eq_true (by omega)
 (try rw [show ((3 : Int)).toNat = 3 from rfl] at hx157_0)
 replace p157:=eq_true p157
 replace q157:=eq_true q157
 refine start_ (n:=17) (S:=fun w' => w'.cell? ad151 = some (.string (rdOf ByteArray.empty t140 0)) ∧ w'.cell? ⟨ad151.block,ad151.off + 1,none⟩ = some (.string (rdOf ByteArray.empty t140 1)) ∧ w'.cell? ⟨ad151.block,ad151.off + 2,none⟩ = some (.string (rdOf ByteArray.empty t140 2)) ∧ w'.cell? ⟨ad151.block,ad151.off + 3,none⟩ = some (.string (rdOf ByteArray.empty t140 3))) (ds:=[]) #[false,false,false,false,false,false,false,false,false,false,false,false,false,false,false,false,false] (by kernel_rfl) rfl rfl ⟨hx154_0,hx155_0,hx156_0,hx157_0⟩ (fun hHeld => ?_);refine with_tabW sr30_Read.tab7 sr30_Read.bits7 (fun HT_ HW_ => ?_)
 generalize wc.drew = w41 at HO_5 BK139 HB hx154_0 hx155_0 hx156_0 hx157_0 hHeld ⊢
 refine pS (i:=0) (N:=some 67) ?_
 refine pS (i:=1) (N:=some 68) ?_
 refine pS (i:=3) (N:=some 70) ?_
 refine pS (i:=4) (N:=some 71) ?_
 refine pS (i:=6) (N:=some 73) ?_
 refine pS (i:=7) (N:=some 74) ?_
 refine pS (i:=10) (N:=some 77) ?_
 refine pS (i:=11) (N:=some 78) ?_
 refine tS (i:=2) (N:=some 69) rfl rfl hHeld HT_.out HW_.out (by kernel_rfl) (Or.inl ⟨by rfl,by rintro w' ⟨s0,s1,s2,s3⟩;go_simp;with_reducible rfl⟩) ?_
 refine pS (i:=14) (N:=some 2) ?_
 refine tS (i:=5) (N:=some 72) rfl rfl hHeld HT_.out HW_.out (by kernel_rfl) (Or.inl ⟨by rfl,by rintro w' ⟨s0,s1,s2,s3⟩;go_simp;with_reducible rfl⟩) ?_
 refine tS (i:=8) (N:=some 75) rfl rfl hHeld HT_.out HW_.out (by kernel_rfl) (Or.inl ⟨by rfl,by rintro w' ⟨s0,s1,s2,s3⟩;go_simp;with_reducible rfl⟩) ?_
 refine pS (i:=9) (N:=some 76) ?_
 refine tS (i:=12) (N:=some 79) rfl rfl hHeld HT_.out HW_.out (by kernel_rfl) (Or.inl ⟨by rfl,by rintro w' ⟨s0,s1,s2,s3⟩;go_simp;with_reducible rfl⟩) ?_
 refine pS (i:=13) (N:=some 80) ?_
 refine one_ (i:=15) (N:=none) #[true,true,true,true,true,true,true,true,true,true,true,true,true,true,true,true,false] rfl rfl (one_of HT_.out (by kernel_rfl)) (by decide) (fun K hK => ?_)
 have hs42 : w41.cell? ⟨gb139,0,none⟩ = some (.string (⟨#[]⟩ : ByteArray)):=(blk_cell BK139.out 0).trans rfl
 have hfs42:=blk_frozen BK139.out 0
 have hs43 : w41.cell? ⟨gb139,1,none⟩ = some (.string (⟨#[]⟩ : ByteArray)):=(blk_cell BK139.out 1).trans rfl
 have hfs43:=blk_frozen BK139.out 1
 refine skip_ (w1:=?_) (by rfl) rfl ?_ ?_
 rotate_left
 · go_simp
   rfl
 refine hK.out _ _ ⟨((cell_far (p:=⟨gb139,_,none⟩) (by first|exact Kd.own_blk (Kd.R_ne HO_5.out BK139.out (by decide))|(rw [add_block];exact Kd.own_blk (Kd.R_ne HO_5.out BK139.out (by decide)))|(show (Addr.add _ _).block ≠ _;rw [add_block];exact Kd.own_blk (Kd.R_ne HO_5.out BK139.out (by decide)))|(dsimp only;exact Kd.own_blk (Kd.R_ne HO_5.out BK139.out (by decide)))) _).trans (((cell_far (p:=⟨gb139,_,none⟩) (by first|exact Kd.own_blk (Kd.R_ne HO_5.out BK139.out (by decide))|(rw [add_block];exact Kd.own_blk (Kd.R_ne HO_5.out BK139.out (by decide)))|(show (Addr.add _ _).block ≠ _;rw [add_block];exact Kd.own_blk (Kd.R_ne HO_5.out BK139.out (by decide)))|(dsimp only;exact Kd.own_blk (Kd.R_ne HO_5.out BK139.out (by decide)))) _).trans (hHeld.1)))),((cell_far (p:=⟨gb139,_,none⟩) (by first|exact Kd.own_blk (Kd.R_ne HO_5.out BK139.out (by decide))|(rw [add_block];exact Kd.own_blk (Kd.R_ne HO_5.out BK139.out (by decide)))|(show (Addr.add _ _).block ≠ _;rw [add_block];exact Kd.own_blk (Kd.R_ne HO_5.out BK139.out (by decide)))|(dsimp only;exact Kd.own_blk (Kd.R_ne HO_5.out BK139.out (by decide)))) _).trans (((cell_far (p:=⟨gb139,_,none⟩) (by first|exact Kd.own_blk (Kd.R_ne HO_5.out BK139.out (by decide))|(rw [add_block];exact Kd.own_blk (Kd.R_ne HO_5.out BK139.out (by decide)))|(show (Addr.add _ _).block ≠ _;rw [add_block];exact Kd.own_blk (Kd.R_ne HO_5.out BK139.out (by decide)))|(dsimp only;exact Kd.own_blk (Kd.R_ne HO_5.out BK139.out (by decide)))) _).trans (hHeld.2.1)))),((cell_far (p:=⟨gb139,_,none⟩) (by first|exact Kd.own_blk (Kd.R_ne HO_5.out BK139.out (by decide))|(rw [add_block];exact Kd.own_blk (Kd.R_ne HO_5.out BK139.out (by decide)))|(show (Addr.add _ _).block ≠ _;rw [add_block];exact Kd.own_blk (Kd.R_ne HO_5.out BK139.out (by decide)))|(dsimp only;exact Kd.own_blk (Kd.R_ne HO_5.out BK139.out (by decide)))) _).trans (((cell_far (p:=⟨gb139,_,none⟩) (by first|exact Kd.own_blk (Kd.R_ne HO_5.out BK139.out (by decide))|(rw [add_block];exact Kd.own_blk (Kd.R_ne HO_5.out BK139.out (by decide)))|(show (Addr.add _ _).block ≠ _;rw [add_block];exact Kd.own_blk (Kd.R_ne HO_5.out BK139.out (by decide)))|(dsimp only;exact Kd.own_blk (Kd.R_ne HO_5.out BK139.out (by decide)))) _).trans (hHeld.2.2.1)))),((cell_far (p:=⟨gb139,_,none⟩) (by first|exact Kd.own_blk (Kd.R_ne HO_5.out BK139.out (by decide))|(rw [add_block];exact Kd.own_blk (Kd.R_ne HO_5.out BK139.out (by decide)))|(show (Addr.add _ _).block ≠ _;rw [add_block];exact Kd.own_blk (Kd.R_ne HO_5.out BK139.out (by decide)))|(dsimp only;exact Kd.own_blk (Kd.R_ne HO_5.out BK139.out (by decide)))) _).trans (((cell_far (p:=⟨gb139,_,none⟩) (by first|exact Kd.own_blk (Kd.R_ne HO_5.out BK139.out (by decide))|(rw [add_block];exact Kd.own_blk (Kd.R_ne HO_5.out BK139.out (by decide)))|(show (Addr.add _ _).block ≠ _;rw [add_block];exact Kd.own_blk (Kd.R_ne HO_5.out BK139.out (by decide)))|(dsimp only;exact Kd.own_blk (Kd.R_ne HO_5.out BK139.out (by decide)))) _).trans (hHeld.2.2.2))))⟩ (fun hHeld => ?_)
 clear hK K
 refine pS (i:=16) (N:=some 4) ?_
 refine done_ (done_of HT_.out (by kernel_rfl)) ?_
 try go_wp2
 refine bodyPost_ret (results_list (rs:=[.tmp 2,.cell 3 23,.tmp 4]) rfl (by simp) (.tmp (.cell gb139 23 #[.string ((rdOf ByteArray.empty t140 1) ++ (rdOf ByteArray.empty t140 2)),.string (rdOf ByteArray.empty t140 3)] (0,0) _ rfl (by refine KU ?_;refine blk_put (cs:=#[.string ((rdOf ByteArray.empty t140 1) ++ (rdOf ByteArray.empty t140 2)),.string (⟨#[]⟩ : ByteArray)]) ?_ 1 _ rfl;refine KU ?_;refine blk_put (cs:=#[.string (⟨#[]⟩ : ByteArray),.string (⟨#[]⟩ : ByteArray)]) ?_ 0 _ rfl;refine KU ?_;exact BK139.out) Tryz.underlying23 rfl (by kernel_rfl) (.tmp .nil)))) rfl ?_
 exact ⟨eR,bH⟩
end Go.Proofs.YtaokkkolbifdpaaGreatDoor.Q32
end

section
namespace Go.Proofs.YtaokkkolbifdpaaGreatDoor.Hand
open Go.RowKit Go.Proofs.YtaokkkolbifdpaaGreatDoorW
open PrintWords PrintLast PrintMore
def wClass : List UInt8 := [99, 108, 97, 115, 115]
def wField : List UInt8 := [102, 105, 101, 108, 100]
def wMethod : List UInt8 := [109, 101, 116, 104, 111, 100]
def lineS (what : List UInt8) (x : List UInt8 × List UInt8) : List UInt8 :=
 if what = wClass ∨ what = wField then lineL [what,x.1,x.2] else if what = wMethod then lineL [what,keyN x.1,keyD x.1,x.2] else []
def readF (l : List (List UInt8)) : List UInt8 × (List UInt8 × List UInt8) × Bool :=
 match l with
 | [a,b,c] => if a = wClass ∨ a = wField then (a,(b,c),true) else ([],([],[]),false)
 | [a,b,c,d] => if a = wMethod ∧ (40 : UInt8) ∉ b ∧ c.head? = some 40 then (a,(b ++ c,d),true) else ([],([],[]),false)
 | _ => ([],([],[]),false)
def readS (line : List UInt8) : List UInt8 × (List UInt8 × List UInt8) × Bool := readF (fieldsL line)
theorem toList_bl (s : ByteArray) : s.toList = bl s := ByteArray.toList_eq s
theorem key_some {l : List UInt8} (h : (40 : UInt8) ∈ l) : ∃ r, keyD l = 40 :: r := by
 unfold keyD
 induction l with
 | nil => simp at h
 | cons b l ih =>
  rw [List.dropWhile_cons]
  by_cases hb : b = 40
  ·
   subst hb
   exact ⟨l,by simp⟩
  ·
   have h2 : (b != 40) = true:=bne_iff_ne.2 hb
   rw [h2,if_pos rfl]
   refine ih ?_
   rcases List.mem_cons.1 h with h|h
   ·
    exact absurd h.symm hb
   ·
    exact h
theorem until_key : ∀ l : List UInt8, untilL 40 l = if (40 : UInt8) ∈ l then some (keyN l, (keyD l).tail) else none
 | [] => by simp [untilL]
 | b :: l => by
  unfold untilL keyN keyD
  by_cases hb : b = 40
  ·
   subst hb
   simp
  ·
   have h2 : (b != 40) = true:=bne_iff_ne.2 hb
   have hm : ((40 : UInt8) ∈ b :: l) ↔ (40 : UInt8) ∈ l:=by
    rw [List.mem_cons]
    exact ⟨fun h => h.resolve_left fun e => hb e.symm,.inr⟩
   rw [if_neg hb,until_key l,List.takeWhile_cons,List.dropWhile_cons,h2,if_pos rfl,if_pos rfl]
   by_cases h : (40 : UInt8) ∈ l
   ·
    rw [if_pos h,if_pos (hm.2 h)];rfl
   ·
    rw [if_neg h,if_neg (fun h' => h (hm.1 h'))];rfl
theorem cut_key (l : List UInt8) : Lib.cut l [40] = if (40 : UInt8) ∈ l then (keyN l, (keyD l).tail, true) else (l, [], false) := by
 rw [cut_until,until_key]
 by_cases h : (40 : UInt8) ∈ l
 ·
  rw [if_pos h,if_pos h]
 ·
  rw [if_neg h,if_neg h]
theorem lineL_len3 (a b c : List UInt8) : (lineL [a, b, c]).length = a.length + b.length + c.length + 2 := by simp [lineL]; omega
theorem lineL_len4 (a b c d : List UInt8) : (lineL [a, b, c, d]).length = a.length + b.length + c.length + d.length + 3 := by simp [lineL]; omega
theorem word_line3 (a b c : ByteArray) (h : a.size + b.size + c.size ≤ 4194304) : word_Line.f [a, b, c] = some (lb (lineL [bl a, bl b, bl c])) := by
 unfold word_Line.f
 rw [if_pos ⟨by show (lineL [bl a,bl b,bl c]).length ≤ _;rw [lineL_len3,bl_len,bl_len,bl_len];omega,by simp⟩]
 rfl
theorem word_line4 (a b c d : ByteArray) (h : a.size + b.size + c.size + d.size ≤ 4194304) : word_Line.f [a, b, c, d] = some (lb (lineL [bl a, bl b, bl c, bl d])) := by
 unfold word_Line.f
 rw [if_pos ⟨by show (lineL [bl a,bl b,bl c,bl d]).length ≤ _;rw [lineL_len4,bl_len,bl_len,bl_len,bl_len];omega,by simp⟩]
 rfl
theorem size_of_bl {s : ByteArray} {l : List UInt8} (h : bl s = l) : s.size = l.length := by rw [← h, bl_len]
theorem legLine_eq (what old new : ByteArray) (ho : old.size ≤ 1048576) (hn : new.size ≤ 1048576) : Q32.legend_Line.f 1 what old new = some (lb (lineS (bl what) (bl old, bl new))) := by
 unfold Q32.legend_Line.f lineS
 by_cases h1 : bl what = wClass
 ·
  have e : what.toList = ([99,108,97,115,115] : List UInt8):=(toList_bl _).trans h1
  have hb : (what.toList == ([99,108,97,115,115] : List UInt8)) = true:=by rw [e];rfl
  rw [if_pos e,if_pos (.inl h1),Q32.legend_Line.j0,if_pos hb,word_line3 _ _ _ (by rw [size_of_bl h1];show 5 + _ + _ ≤ _;omega)]
  rfl
 ·
  have e : ¬ what.toList = ([99,108,97,115,115] : List UInt8):=fun he => h1 ((toList_bl _).symm.trans he)
  rw [if_neg e]
  by_cases h2 : bl what = wField
  ·
   have e2 : what.toList = ([102,105,101,108,100] : List UInt8):=(toList_bl _).trans h2
   have hb : (what.toList == ([102,105,101,108,100] : List UInt8)) = true:=by rw [e2];rfl
   rw [if_pos (.inr h2),Q32.legend_Line.j0,if_pos hb,word_line3 _ _ _ (by rw [size_of_bl h2];show 5 + _ + _ ≤ _;omega)]
   rfl
  ·
   have e2 : ¬ what.toList = ([102,105,101,108,100] : List UInt8):=fun he => h2 ((toList_bl _).symm.trans he)
   have hb : ¬ (what.toList == ([102,105,101,108,100] : List UInt8)) = true:=fun he => e2 (eq_of_beq he)
   rw [if_neg (fun h => h.elim h1 h2),Q32.legend_Line.j0,if_neg hb]
   by_cases h3 : bl what = wMethod
   ·
    have e3 : what.toList = ([109,101,116,104,111,100] : List UInt8):=(toList_bl _).trans h3
    have hw : what.size = 6:=size_of_bl h3
    rw [if_pos e3,if_pos h3]
    unfold strings_Cut.f
    rw [if_pos (by omega),show bl (⟨#[40]⟩ : ByteArray) = [40] from rfl,cut_key]
    have hk1:=keyN_len (bl old)
    have hk2:=keyD_len (bl old)
    rw [bl_len] at hk1 hk2
    by_cases hm : (40 : UInt8) ∈ bl old
    ·
     obtain ⟨r,hr⟩:=key_some hm
     have hr2 : r.length + 1 ≤ old.size:=by rw [hr] at hk2;simpa using hk2
     rw [if_pos hm]
     simp only [Option.bind_some,if_true]
     rw [hr,List.tail_cons,if_pos (by rw [lb_size];omega)]
     have hcat : (⟨#[40]⟩ : ByteArray) ++ lb r = lb (40 :: r):=by
      apply bl_inj
      rw [bl_append,bl_lb,bl_lb]
      rfl
     rw [hcat,word_line4 _ _ _ _ (by rw [hw,lb_size,lb_size,List.length_cons];omega),bl_lb,bl_lb]
     rfl
    ·
     rw [if_neg hm]
     simp only [Option.bind_some,Bool.false_eq_true,if_false]
     rw [lb_bl,word_line4 _ _ _ _ (by rw [hw,lb_size];simp;omega),bl_lb,(key_none hm).1,(key_none hm).2]
     rfl
   ·
    have e3 : ¬ what.toList = ([109,101,116,104,111,100] : List UInt8):=fun he => h3 ((toList_bl _).symm.trans he)
    rw [if_neg e3,if_neg h3]
    first|done|rfl
theorem rd_map (l : List (List UInt8)) (i : Nat) (h : i < l.length) : rdOf ByteArray.empty (l.map lb) (i : Int) = lb l[i] := by simp [rdOf, List.getElem?_eq_getElem h]
theorem index_one40 (l : List UInt8) : Lib.contains l [40] = decide ((40 : UInt8) ∈ l) := by
 have h1 : Lib.contains l [40] = decide (0 ≤ Lib.indexByte l 40):=by
  unfold Lib.contains
  rw [Lib.index_one]
 rw [h1,index_tw]
 by_cases h : (40 : UInt8) ∈ l
 ·
  rw [if_pos h,decide_eq_true h,decide_eq_true (by omega)]
 ·
  rw [if_neg h,decide_eq_false h,decide_eq_false (by omega)]
theorem prefix40 (l : List UInt8) : Lib.hasPrefix l [40] = decide (l.head? = some 40) := by
 cases l with
 | nil => rfl
 | cons b l =>
  unfold Lib.hasPrefix
  by_cases h : b = 40
  ·
   subst h;simp [List.isPrefixOf]
  ·
   have : ¬ (40 : UInt8) = b:=fun e => h e.symm
   simp [List.isPrefixOf,h,this]
def legOut (q : List UInt8 × (List UInt8 × List UInt8) × Bool) : ByteArray × ByteArray × ByteArray × Bool := (lb q.1, lb q.2.1.1, lb q.2.1.2, q.2.2)
theorem lb_word {a w : List UInt8} : (lb a).toList = w ↔ a = w := by rw [toList_bl, bl_lb]
theorem lb_beq (a w : List UInt8) : ((lb a).toList == w) = decide (a = w) := by
 rw [toList_bl,bl_lb]
 by_cases h : a = w
 ·
  rw [decide_eq_true h,h];exact beq_self_eq_true _
 ·
  rw [decide_eq_false h];exact beq_eq_false_iff_ne.2 h
theorem legRead_j0 (l : List (List UInt8)) (x : List UInt8) (hx : l.head? = some x) (b : Bool) (hb : b = decide (x = wClass ∨ x = wField)) (hs : ∀ a ∈ l, a.length ≤ 4194304) :
  Q32.legend_Read.j0 1 (l.map lb) (lb x) b = some (legOut (readF l)):=by
 rw [Q32.legend_Read.j0]
 have hlen : ((l.map lb).length : Int) = (l.length : Int):=by rw [List.length_map]
 rw [hlen]
 have nm : x = wClass ∨ x = wField → ¬ x = wMethod:=fun h => by rcases h with h|h <;> (rw [h];decide)
 match l,hx,hs with
 | [a],hx,_ =>
  obtain rfl : a = x:=by simpa using hx
  rw [hb]
  by_cases h : a = wClass ∨ a = wField
  ·
   rw [decide_eq_true h];rfl
  ·
   rw [decide_eq_false h]
   by_cases h3 : (lb a).toList = ([109,101,116,104,111,100] : List UInt8)
   ·
    rw [if_pos h3];rfl
   ·
    rw [if_neg h3];rfl
 | [a,c],hx,_ =>
  obtain rfl : a = x:=by simpa using hx
  rw [hb]
  by_cases h : a = wClass ∨ a = wField
  ·
   rw [decide_eq_true h];rfl
  ·
   rw [decide_eq_false h]
   by_cases h3 : (lb a).toList = ([109,101,116,104,111,100] : List UInt8)
   ·
    rw [if_pos h3];rfl
   ·
    rw [if_neg h3];rfl
 | [a,c,d],hx,_ =>
  obtain rfl : a = x:=by simpa using hx
  rw [hb]
  by_cases h : a = wClass ∨ a = wField
  ·
   rw [decide_eq_true h]
   simp only [readF,if_pos h]
   rfl
  ·
   rw [decide_eq_false h]
   simp only [readF,if_neg h]
   by_cases h3 : (lb a).toList = ([109,101,116,104,111,100] : List UInt8)
   ·
    rw [if_pos h3];rfl
   ·
    rw [if_neg h3];rfl
 | [a,c,d,e],hx,hs =>
  obtain rfl : a = x:=by simpa using hx
  have hc:=hs c (by simp)
  have hd:=hs d (by simp)
  rw [hb]
  by_cases h : a = wClass ∨ a = wField
  ·
   rw [decide_eq_true h]
   simp only [readF,if_neg (show ¬ (a = wMethod ∧ (40 : UInt8) ∉ c ∧ d.head? = some 40) from fun q => nm h q.1)]
   rfl
  ·
   rw [decide_eq_false h]
   by_cases h3 : a = wMethod
   ·
    have h3' : (lb a).toList = ([109,101,116,104,111,100] : List UInt8):=lb_word.2 h3
    have r1 : rdOf ByteArray.empty ([a,c,d,e].map lb) 1 = lb c:=rfl
    have r2 : rdOf ByteArray.empty ([a,c,d,e].map lb) 2 = lb d:=rfl
    have r0 : rdOf ByteArray.empty ([a,c,d,e].map lb) 0 = lb a:=rfl
    have r3 : rdOf ByteArray.empty ([a,c,d,e].map lb) 3 = lb e:=rfl
    unfold readF
    rw [if_neg (by decide),if_pos h3',if_pos (by rfl),if_pos (show (1 : Int) < (([a,c,d,e] : List (List UInt8)).length : Int) by simp),r1,r2,r0,r3]
    unfold strings_Contains.f strings_HasPrefix.f
    rw [if_pos (by rw [lb_size];omega),bl_lb,bl_lb,show bl (⟨#[40]⟩ : ByteArray) = [40] from rfl,index_one40,prefix40]
    simp only [Option.bind_some,decide_eq_true_eq]
    by_cases hm : (40 : UInt8) ∈ c
    ·
     rw [if_pos hm,if_neg (fun q => q.2.1 hm)]
     rfl
    ·
     rw [if_neg hm,if_pos (show (2 : Int) < (([a,c,d,e] : List (List UInt8)).length : Int) by simp)]
     by_cases hp : d.head? = some 40
     ·
      rw [if_pos hp,if_pos (show (0 : Int) < (([a,c,d,e] : List (List UInt8)).length : Int) by simp),if_pos (by rw [lb_size,lb_size];omega),if_pos (show (3 : Int) < (([a,c,d,e] : List (List UInt8)).length : Int) by simp),if_pos ⟨h3,hm,hp⟩]
      have : lb c ++ lb d = lb (c ++ d):=by apply bl_inj;rw [bl_append,bl_lb,bl_lb,bl_lb]
      rw [this]
      rfl
     ·
      rw [if_neg hp,if_neg (fun q => hp q.2.2)]
      rfl
   ·
    have h3' : ¬ (lb a).toList = ([109,101,116,104,111,100] : List UInt8):=fun q => h3 (lb_word.1 q)
    have hn : ¬ (a = wMethod ∧ (40 : UInt8) ∉ c ∧ d.head? = some 40):=fun q => h3 q.1
    rw [if_neg (by decide),if_neg h3']
    simp only [readF,if_neg hn]
    rfl
 | a :: c :: d :: e :: g :: l,hx,_ =>
  obtain rfl : a = x:=by simpa using hx
  have n3 : ¬ ((a :: c :: d :: e :: g :: l).length : Int) = 3:=by simp only [List.length_cons];omega
  have n4 : ¬ ((a :: c :: d :: e :: g :: l).length : Int) = 4:=by simp only [List.length_cons];omega
  rw [hb]
  by_cases h : a = wClass ∨ a = wField
  ·
   rw [decide_eq_true h,if_pos rfl,if_neg n3];rfl
  ·
   rw [decide_eq_false h,if_neg (by decide)]
   by_cases h3 : (lb a).toList = ([109,101,116,104,111,100] : List UInt8)
   ·
    rw [if_pos h3,if_neg n4];rfl
   ·
    rw [if_neg h3];rfl
theorem fld_mem : ∀ (s cur : List UInt8), ∀ a ∈ fld cur s, a.length ≤ cur.length + s.length
 | [],cur,a,h => by simp [fld] at h;simp [h]
 | b :: r,cur,a,h => by
  unfold fld at h
  split at h
  ·
   rcases List.mem_cons.1 h with h|h
   ·
    rw [h];simp
   ·
    have:=fld_mem r [] a h
    simp at this ⊢
    omega
  ·
   have:=fld_mem r (cur ++ [b]) a h
   simp at this ⊢
   omega
theorem legRead_eq (s : ByteArray) (hs : s.size ≤ 1048576) : Q32.legend_Read.f 1 s = some (legOut (readS (bl s))) := by
 unfold Q32.legend_Read.f word_Fields.f readS
 have q1 : ∀ x : List UInt8,((lb x).toList = ([99,108,97,115,115] : List UInt8)) ↔ x = wClass:=fun x => lb_word
 have q2 : ∀ x : List UInt8,((lb x).toList == ([99,108,97,115,115] : List UInt8)) = decide (x = wClass):=fun x => lb_beq x wClass
 have q3 : ∀ x : List UInt8,((lb x).toList == ([102,105,101,108,100] : List UInt8)) = decide (x = wField):=fun x => lb_beq x wField
 rw [if_pos (by omega)]
 have hne : fieldsL (bl s) ≠ []:=fld_ne _ _
 obtain ⟨x,l,hl⟩:=List.exists_cons_of_ne_nil hne
 have hsz : ∀ a ∈ fieldsL (bl s),a.length ≤ 4194304:=fun a ha => by
  have:=fld_mem (bl s) [] a ha
  rw [bl_len] at this
  simp at this
  omega
 rw [Option.bind_some,if_pos (by rw [hl];simp)]
 have r0 : rdOf ByteArray.empty ((fieldsL (bl s)).map lb) 0 = lb x:=by rw [hl];rfl
 have hh : (fieldsL (bl s)).head? = some x:=by rw [hl];rfl
 rw [r0]
 by_cases h1 : x = wClass
 ·
  rw [if_pos ((q1 x).2 h1),q2]
  exact legRead_j0 _ x hh _ (by rw [decide_eq_true h1,decide_eq_true (.inl h1)]) hsz
 ·
  rw [if_neg (fun q => h1 ((q1 x).1 q)),q3]
  refine legRead_j0 _ x hh _ ?_ hsz
  by_cases h2 : x = wField
  ·
   rw [decide_eq_true h2,decide_eq_true (.inr h2)]
  ·
   rw [decide_eq_false h2,decide_eq_false (fun q => q.elim h1 h2)]
theorem lines_loop (what : ByteArray) (l : List S23) (hl : okL l) : ∀ (d k i : Nat), l.length - i = d → i ≤ l.length → d + 1 < k →
  Q32.legend_lines.l0 k what ((l.take i).map fun x => lb (lineS (bl what) (pairT x))) l (l.length : Int) (i : Int) = some (l.map fun x => lb (lineS (bl what) (pairT x)))
 | 0,k,i,hd,hi,hk => by
  obtain ⟨k,rfl⟩ : ∃ j,k = j + 1:=⟨k - 1,by omega⟩
  rw [Q32.legend_lines.l0,if_neg (by omega),List.take_of_length_le (by omega)]
 | d + 1,k,i,hd,hi,hk => by
  obtain ⟨k,rfl⟩ : ∃ j,k = j + 1 + 1:=⟨k - 2,by omega⟩
  have hlt : i < l.length:=by omega
  have hx : rd_T23 l (i : Int) = l[i]:=by
   unfold rd_T23
   rw [Int.toNat_natCast,List.getD_eq_getElem?_getD,List.getElem?_eq_getElem hlt]
   rfl
  have hok:=hl.2 l[i] (List.getElem_mem hlt)
  have hL:=legLine_eq what l[i].f0 l[i].f1 hok.1 hok.2
  have hL' : Q32.legend_Line.f (k + 1) what l[i].f0 l[i].f1 = some (lb (lineS (bl what) (bl l[i].f0,bl l[i].f1))):=by
   clear hd hk hx
   induction k with
   | zero => exact hL
   | succ k ih => exact Q32.legend_Line.mono what l[i].f0 l[i].f1 (k + 1) _ ih
  have hw : wrap64 ((i : Int) + 1) = ((i + 1 : Nat) : Int):=by have:=hl.1;unfold wrap64;omega
  have ih:=lines_loop what l hl d (k + 1) (i + 1) (by omega) (by omega) (by omega)
  rw [Q32.legend_lines.l0,if_pos (by omega),if_pos (by omega),if_pos (by omega),hx,hL',Option.bind_some,if_pos (by rw [List.length_map,List.length_take];have:=hl.1;omega),hw]
  rw [List.take_succ_eq_append_getElem hlt,List.map_append] at ih
  exact ih
theorem lines_eq (what : ByteArray) (l : List S23) (hl : okL l) : Q32.legend_lines.f (l.length + 2) what l = some (l.map fun x => lb (lineS (bl what) (pairT x))) := lines_loop what l hl l.length (l.length + 2) 0 (by omega) (by omega) (by omega)
def linesAll (l0 l1 l2 : List S23) : List (List UInt8) := (l0.map fun x => lineS wClass (pairT x)) ++ (l1.map fun x => lineS wField (pairT x)) ++ (l2.map fun x => lineS wMethod (pairT x))
def printS (l0 l1 l2 : List S23) : List UInt8 × Int := if rightS l0 l1 l2 = true then (if (textL (linesAll l0 l1 l2)).length > 65536 then ([], 3) else (textL (linesAll l0 l1 l2), 0)) else ([], 1)
theorem rows3 {w : World} {g : Nat} {E1 E2 E3 : Option Addr} {d1 d2 d3 : Nat} {x1 x2 x3 : List ByteArray} (hb : w.heap[g]? = some (Obj.cells #[.slice E1 x1.length d1, .slice E2 x2.length d2, .slice E3 x3.length d3] 45 (0, 0)))
  (hd1 : x1.length ≤ d1) (hd2 : x2.length ≤ d2) (hd3 : x3.length ≤ d3) (h1 : Kd.C Kd.string w E1 x1.length x1) (h2 : Kd.C Kd.string w E2 x2.length x2) (h3 : Kd.C Kd.string w E3 x3.length x3) : Kd.C (Kd.slice 9 Kd.string) w (some ⟨g,0,none⟩) [x1,x2,x3].length [x1,x2,x3]:=by
 refine ⟨rfl,by simp,fun _ => ⟨⟨g,0,none⟩,rfl,fun j p hj => ?_⟩⟩
 have hj3 : j < 3:=(List.getElem?_eq_some_iff.1 hj).1
 have cell : ∀ (i : Nat) (u : Value),(#[.slice E1 x1.length d1,.slice E2 x2.length d2,.slice E3 x3.length d3] : Array Value)[i]? = some u → w.cell? ((⟨g,0,none⟩ : Addr).add i) = some u:=fun i u hu => by rw [add_plain,blk_cell hb i];exact hu
 have one : ∀ (u v : Value) (i : Nat),([u] : List Value)[i]? = some v → i = 0 ∧ v = u:=fun u v i h => by
  have h0 : i < 1:=(List.getElem?_eq_some_iff.1 h).1
  obtain rfl : i = 0:=by omega
  exact ⟨rfl,by simpa using h.symm⟩
 rcases (by omega : j = 0 ∨ j = 1 ∨ j = 2) with rfl|rfl|rfl
 ·
  obtain rfl : x1 = p:=by simpa using hj
  exact ⟨[.slice E1 x1.length d1],rfl,⟨E1,d1,rfl,hd1,h1⟩,fun i u hu => by obtain ⟨rfl,rfl⟩:=one _ _ _ hu;exact cell 0 _ rfl⟩
 ·
  obtain rfl : x2 = p:=by simpa using hj
  exact ⟨[.slice E2 x2.length d2],rfl,⟨E2,d2,rfl,hd2,h2⟩,fun i u hu => by obtain ⟨rfl,rfl⟩:=one _ _ _ hu;exact cell 1 _ rfl⟩
 ·
  obtain rfl : x3 = p:=by simpa using hj
  exact ⟨[.slice E3 x3.length d3],rfl,⟨E3,d3,rfl,hd3,h3⟩,fun i u hu => by obtain ⟨rfl,rfl⟩:=one _ _ _ hu;exact cell 2 _ rfl⟩
theorem lines_call (wh : ByteArray) (A : Option Addr) (c : Nat) (l : List S23) (hl : okL l) (hc : l.length ≤ c) (W : World) (hC : Kd.C k23 W A l.length l) (hM : MaxL W) :
  Calls Tryz.prog 28 #[.string wh,.slice A l.length c] W fun e w' => ∃ v,e = .returned v ∧ Kd.R Kd.string 9 w' W.heap.size (fun _ => True) v (l.map fun x => lb (lineS (bl wh) (pairT x))) ∧ Below W.heap.size W w' :=
 Q32.legend_lines.calls (l.length + 2) wh A c l _ W hC hc hM (lines_eq wh l hl)
theorem legend_print (A0 : Option Addr) (c0 : Nat) (l0 : List S23) (A1 : Option Addr) (c1 : Nat) (l1 : List S23) (A2 : Option Addr) (c2 : Nat) (l2 : List S23) (w : World) (hC0 : Kd.C k23 w A0 l0.length l0) (hc0 : l0.length ≤ c0) (hC1 : Kd.C k23 w A1 l1.length l1) (hc1 : l1.length ≤ c1) (hC2 : Kd.C k23 w A2 l2.length l2) (hc2 : l2.length ≤ c2) (ok0 : okL l0) (ok1 : okL l1) (ok2 : okL l2) (hM : MaxL w)
  (hn : (linesAll l0 l1 l2).length ≤ 1048576) (ht : (textL (linesAll l0 l1 l2)).length ≤ 140737488355000) :
  Calls Tryz.prog 13 #[.agg #[.slice A0 l0.length c0,.slice A1 l1.length c1,.slice A2 l2.length c2]] w fun e w' => e = .returned (.tuple #[.string (lb (printS l0 l1 l2).1),.int .i64 (printS l0 l1 l2).2]) ∧ Below w.heap.size w w':=by
 have HRi:=aq (fun W (hQ : Mp3 W w.heap.size A0 c0 l0 A1 c1 l1 A2 c2 l2) => alias_right A0 c0 l0 A1 c1 l1 A2 c2 l2 W hQ.r0 hc0 hQ.r1 hc1 hQ.r2 hc2 ok0 ok1 ok2 hQ.m)
 have HM1:=aq (Mp3.mk (World.alloc_heap_new w (Obj.cells #[.slice A0 l0.length c0,.slice A1 l1.length c1,.slice A2 l2.length c2] 34)) (Kd.C_below hC0 (below_alloc (Below.refl _ _) _)) (Kd.C_below hC1 (below_alloc (Below.refl _ _) _)) (Kd.C_below hC2 (below_alloc (Below.refl _ _) _)) (hM.below (below_alloc (Below.refl _ _) _)))
 have HB1:=aq (below_alloc (Below.refl w.heap.size w) (Obj.cells #[.slice A0 l0.length c0,.slice A1 l1.length c1,.slice A2 l2.length c2] 34))
 have HLa:=aq (fun W (hQ : Mp3 W w.heap.size A0 c0 l0 A1 c1 l1 A2 c2 l2) => lines_call ⟨#[99,108,97,115,115]⟩ A0 c0 l0 ok0 hc0 W hQ.r0 hQ.m)
 have HLb:=aq (fun W (hQ : Mp3 W w.heap.size A0 c0 l0 A1 c1 l1 A2 c2 l2) => lines_call ⟨#[102,105,101,108,100]⟩ A1 c1 l1 ok1 hc1 W hQ.r1 hQ.m)
 have HLc:=aq (fun W (hQ : Mp3 W w.heap.size A0 c0 l0 A1 c1 l1 A2 c2 l2) => lines_call ⟨#[109,101,116,104,111,100]⟩ A2 c2 l2 ok2 hc2 W hQ.r2 hQ.m)
 obtain ⟨x1,hx1⟩ : ∃ x,x = l0.map (fun x => lb (lineS (bl ⟨#[99,108,97,115,115]⟩) (pairT x))):=⟨_,rfl⟩
 obtain ⟨x2,hx2⟩ : ∃ x,x = l1.map (fun x => lb (lineS (bl ⟨#[102,105,101,108,100]⟩) (pairT x))):=⟨_,rfl⟩
 obtain ⟨x3,hx3⟩ : ∃ x,x = l2.map (fun x => lb (lineS (bl ⟨#[109,101,116,104,111,100]⟩) (pairT x))):=⟨_,rfl⟩
 have hcat : ([x1,x2,x3].flatten).map bl = linesAll l0 l1 l2:=by
  rw [hx1,hx2,hx3]
  unfold linesAll
  simp only [List.flatten_cons,List.flatten_nil,List.append_nil,List.map_append,List.map_map]
  rw [List.append_assoc]
  rfl
 have hlen : [x1,x2,x3].flatten.length ≤ 1048576:=by rw [← List.length_map (f:=bl),hcat];exact hn
 have HTx:=aq (fun E d W hC hc => word_Text.calls E d [x1,x2,x3].flatten (lb (textL (linesAll l0 l1 l2))) W hC hc (by unfold word_Text.f;rw [hcat,if_pos (by omega)]))
 have HCo : Aside0 (∀ (A : Option Addr) (W : World),Kd.C (Kd.slice 9 Kd.string) W A [x1,x2,x3].length [x1,x2,x3] → Calls Tryz.prog 27 #[.slice A 3 3] W fun e w' => ∃ v,e = .returned v ∧ Kd.R Kd.string 9 w' W.heap.size (fun _ => True) v [x1,x2,x3].flatten ∧ Below W.heap.size W w'):=⟨fun A W hC => concat_str A 3 [x1,x2,x3] W hC (by simp) hlen⟩
 rw [← hx1] at HLa
 rw [← hx2] at HLb
 rw [← hx3] at HLc
 unfold printS
 obtain ⟨t,ht'⟩ : ∃ t,t = textL (linesAll l0 l1 l2):=⟨_,rfl⟩
 obtain ⟨xs,hxs⟩ : ∃ t,t = [x1,x2,x3].flatten:=⟨_,rfl⟩
 obtain ⟨br,hbr⟩ : ∃ b,b = rightS l0 l1 l2:=⟨_,rfl⟩
 rw [← ht'] at HTx ht ⊢
 rw [← hxs] at HTx HCo
 rw [← hbr] at HRi ⊢
 obtain ⟨m0,m1,m2⟩:=HM1.out.cells
 clear hx1 hx2 hx3 hcat hlen ht' hxs hbr hC0 hC1 hC2 hM hn ok0 ok1 ok2
 cases br with
 | false =>
  go_enter Tryz.func13,Tryz.ntmps13
  go_wp2_with fail
  refine (HRi.out _ HM1.out).mono ?_
  rintro e w2 ⟨rfl,hb⟩
  have HB2:=aq (below_step HB1.out hb)
  clear hb
  go_wp2_with fail
  exact bodyPost_ret (results_tmp2 rfl _ _ _) rfl ⟨rfl,HB2.out⟩
 | true =>
  go_enter Tryz.func13,Tryz.ntmps13
  go_wp2_with fail
  refine (HRi.out _ HM1.out).mono ?_
  rintro e w2 ⟨rfl,hb⟩
  have HM2:=aq (HM1.out.below hb)
  have HB2:=aq (below_step HB1.out hb)
  clear hb m0 m1 m2
  go_wp2_with fail
  go_region_held3 (fun w' => w'.cell? ⟨w.heap.size, 0, none⟩ = some (.slice A0 l0.length c0) ∧ w'.cell? ⟨w.heap.size, 1, none⟩ = some (.slice A1 l1.length c1) ∧ w'.cell? ⟨w.heap.size, 2, none⟩ = some (.slice A2 l2.length c2)) (first | with_reducible exact HM2.out.cells | with_reducible exact (HM2.out.below (below_drew1 (Below.refl _ _))).cells | with_reducible exact HM3.out.cells | with_reducible exact HM4.out.cells | with_reducible exact HM5.out.cells | with_reducible exact (HM5.out.below (below_alloc (Below.refl _ _) _)).cells | with_reducible exact HM6.out.cells | with_reducible exact HM7.out.cells | fail "keep") ((first
   | (go_at_call 28;(with_reducible refine (HLa.out _ (HM2.out.below (below_drew1 (Below.refl _ _)))).mono ?_);rintro e w3 ⟨v3,rfl,hR,hb⟩;obtain ⟨E1,d1,rfl,hd1,hE1⟩:=Kd.R_reads hR;have hb_:=below_step (below_drew1 (Below.refl _ _)) hb;have HM3:=aq (HM2.out.below hb_);have HB3:=aq (below_step HB2.out hb_);have HE1:=aq hE1;have HD1:=aq hd1;clear hR hb hb_ hE1 hd1)
   | (go_at_call 28;(with_reducible refine (HLb.out _ (HM3.out.below (Below.refl _ _))).mono ?_);rintro e w4 ⟨v4,rfl,hR,hb⟩;obtain ⟨E2,d2,rfl,hd2,hE2⟩:=Kd.R_reads hR;have hb_:=below_step (Below.refl _ _) hb;have HM4:=aq (HM3.out.below hb_);have HB4:=aq (below_step HB3.out hb_);have HB34:=aq hb_;have HE2:=aq hE2;have HD2:=aq hd2;clear hR hb hb_ hE2 hd2)
   | (go_at_call 28;(with_reducible refine (HLc.out _ (HM4.out.below (Below.refl _ _))).mono ?_);rintro e w5 ⟨v5,rfl,hR,hb⟩;obtain ⟨E3,d3,rfl,hd3,hE3⟩:=Kd.R_reads hR;have hb_:=below_step (Below.refl _ _) hb;have HM5:=aq (HM4.out.below hb_);have HB5:=aq (below_step HB4.out hb_);have HB45:=aq hb_;have HE3:=aq hE3;have HD3:=aq hd3;clear hR hb hb_ hE3 hd3)
   | (go_at_call 27;(with_reducible refine (HCo.out _ _ (rows3 (World.alloc_heap_new w5 _) HD1.out HD2.out HD3.out (Kd.C_below HE1.out ?ba) (Kd.C_below HE2.out ?bb) (Kd.C_below HE3.out ?bc))).mono ?_);(case ba => exact (below_step (below_step HB34.out HB45.out) (below_alloc (Below.refl _ _) _)));(case bb => exact (below_step HB45.out (below_alloc (Below.refl _ _) _)));(case bc => exact (below_alloc (Below.refl _ _) _));rintro e w6 ⟨v6,rfl,hR,hb⟩;obtain ⟨E6,d6,rfl,hd6,hE6⟩:=Kd.R_reads hR;have hb_:=below_step (below_alloc (Below.refl w5.heap.size w5) _) hb;have HM6:=aq (HM5.out.below hb_);have HB6:=aq (below_step HB5.out hb_);have HE6:=aq hE6;have HD6:=aq hd6;clear hR hb hb_ hE6 hd6)
   | (go_at_call 26;(with_reducible refine (HTx.out _ _ _ HE6.out HD6.out).mono ?_);rintro e w7 ⟨rfl,hb⟩;have HM7:=aq (HM6.out.below hb);have HB7:=aq (below_step HB6.out hb);clear hb)))
  have hts : (lb t).size = t.length:=lb_size t
  by_cases hbig : t.length > 65536
  ·
   have e1 : decide (((lb t).size : Int) > 65536) = true:=decide_eq_true (by omega)
   have e2 : decide ((65536 : Int) < ((lb t).size : Int)) = true:=decide_eq_true (by omega)
   have e3 : decide (65536 < (lb t).size) = true:=decide_eq_true (by omega)
   have HI : Aside0 ((if t.length > 65536 then (([],3) : List UInt8 × Int) else (t,0)) = ([],3)):=⟨if_pos hbig⟩
   clear hts
   go_wp2_with fail
   refine bodyPost_ret (results_tmp2 rfl _ _ _) rfl ⟨?_,HB7.out⟩
   first
    | rfl
    | (rw [if_pos rfl,HI.out];rfl)
    | (rw [HI.out];rfl)
    | (simp only [HI.out,if_true];rfl)
    | (have hi:=HI.out;simp only [gt_iff_lt] at hi ⊢;rw [hi];rfl)
  ·
   have e1 : decide (((lb t).size : Int) > 65536) = false:=decide_eq_false (by omega)
   have e2 : decide ((65536 : Int) < ((lb t).size : Int)) = false:=decide_eq_false (by omega)
   have e3 : decide (65536 < (lb t).size) = false:=decide_eq_false (by omega)
   have HI : Aside0 ((if t.length > 65536 then (([],3) : List UInt8 × Int) else (t,0)) = (t,0)):=⟨if_neg hbig⟩
   clear hts
   go_wp2_with fail
   refine bodyPost_ret (results_tmp2 rfl _ _ _) rfl ⟨?_,HB7.out⟩
   first
    | rfl
    | (rw [if_pos rfl,HI.out];rfl)
    | (rw [HI.out];rfl)
    | (simp only [HI.out,if_true];rfl)
    | (have hi:=HI.out;simp only [gt_iff_lt] at hi ⊢;rw [hi];rfl)
theorem pair_info : (Tryz.prog.info? 23).map (fun i => (i.zero, i.size, i.bytes)) = some (some (.agg #[.string ⟨#[]⟩, .string ⟨#[]⟩]), 2, 32) := by kernel_rfl
structure MOwn (w : World) (base g : Nat) (v0 v1 v2 : Value) (l0 l1 l2 : List S23) : Prop where
 b : w.heap[g]? = some (Obj.cells #[v0,v1,v2] 34 (0,0))
 hb : base ≤ g
 r0 : Kd.R k23 23 w base (fun _ => True) v0 l0
 r1 : Kd.R k23 23 w base (fun _ => True) v1 l1
 r2 : Kd.R k23 23 w base (fun _ => True) v2 l2
 a01 : ∀ q,v0.ownBlock = some q → some q ≠ v1.ownBlock
 a10 : ∀ q,v1.ownBlock = some q → some q ≠ v0.ownBlock
 a02 : ∀ q,v0.ownBlock = some q → some q ≠ v2.ownBlock
 a20 : ∀ q,v2.ownBlock = some q → some q ≠ v0.ownBlock
 a12 : ∀ q,v1.ownBlock = some q → some q ≠ v2.ownBlock
 a21 : ∀ q,v2.ownBlock = some q → some q ≠ v1.ownBlock
theorem MOwn.below {w w' : World} {base g : Nat} {v0 v1 v2 : Value} {l0 l1 l2 : List S23} (h : MOwn w base g v0 v1 v2 l0 l1 l2) (hb : Below w.heap.size w w') (hbz : base ≤ w.heap.size) : MOwn w' base g v0 v1 v2 l0 l1 l2 :=
 { h with b:=blk_below h.b hb,r0:=Kd.R_below h.r0 hb,r1:=Kd.R_below h.r1 hb,r2:=Kd.R_below h.r2 hb }
theorem MOwn.put0 {w W w2 : World} {base g : Nat} {v0 v1 v2 v' : Value} {l0 l1 l2 : List S23} {x : S23} (h : MOwn W base g v0 v1 v2 l0 l1 l2) (hr : Kd.R k23 23 w2 base (fun _ => True) v' (l0 ++ [x])) (hg : W.grownBy w2 v0.ownBlock) (hB : Below base w w2) (hat : v'.ownBlock = v0.ownBlock ∨ ∃ b, v'.ownBlock = some b ∧ W.heap.size ≤ b) (hbz : base ≤ W.heap.size) :
  MOwn (w2.setCell ⟨g,0,none⟩ v') base g v' v1 v2 (l0 ++ [x]) l1 l2 ∧ Below base w (w2.setCell ⟨g,0,none⟩ v'):=by
 have hb2:=blk_grown h.b hg (Kd.R_ne h.r0 h.b (by decide))
 have hfar : ∀ (a : Value) (la : List S23),Kd.R k23 23 W base (fun _ => True) a la → (∀ q,v0.ownBlock = some q → some q ≠ a.ownBlock) → ∀ q,v'.ownBlock = some q → some q ≠ a.ownBlock:=by
  intro a la hra hne q hq
  rcases hat with e|⟨b,e,hbb⟩
  ·
   exact hne q (e ▸ hq)
  ·
   intro e2
   have h1:=Kd.R_lt hra q e2.symm
   rw [e] at hq
   cases hq
   omega
 have n1:=hfar v1 l1 h.r1 h.a01
 have n2:=hfar v2 l2 h.r2 h.a02
 have sy : ∀ (a : Value),(∀ q,v'.ownBlock = some q → some q ≠ a.ownBlock) → ∀ q,a.ownBlock = some q → some q ≠ v'.ownBlock:=fun a hn q hq e => hn q e.symm hq.symm
 refine ⟨{ b:=blk_put hb2 0 v' rfl,hb:=h.hb,r0:=Kd.R_set hr hb2 (by decide) 0 v',r1:=Kd.R_set (Kd.R_grown2 h.r1 rfl hg (fun q e => h.a01 q e)) hb2 (by decide) 0 v',r2:=Kd.R_set (Kd.R_grown2 h.r2 rfl hg (fun q e => h.a02 q e)) hb2 (by decide) 0 v',a01:=n1,a02:=n2,a10:=sy _ n1,a20:=sy _ n2,a12:=h.a12,a21:=h.a21 },hB.setCell h.hb _⟩
theorem MOwn.put1 {w W w2 : World} {base g : Nat} {v0 v1 v2 v' : Value} {l0 l1 l2 : List S23} {x : S23} (h : MOwn W base g v0 v1 v2 l0 l1 l2) (hr : Kd.R k23 23 w2 base (fun _ => True) v' (l1 ++ [x])) (hg : W.grownBy w2 v1.ownBlock) (hB : Below base w w2) (hat : v'.ownBlock = v1.ownBlock ∨ ∃ b, v'.ownBlock = some b ∧ W.heap.size ≤ b) (hbz : base ≤ W.heap.size) :
  MOwn (w2.setCell ⟨g,1,none⟩ v') base g v0 v' v2 l0 (l1 ++ [x]) l2 ∧ Below base w (w2.setCell ⟨g,1,none⟩ v'):=by
 have hb2:=blk_grown h.b hg (Kd.R_ne h.r1 h.b (by decide))
 have hfar : ∀ (a : Value) (la : List S23),Kd.R k23 23 W base (fun _ => True) a la → (∀ q,v1.ownBlock = some q → some q ≠ a.ownBlock) → ∀ q,v'.ownBlock = some q → some q ≠ a.ownBlock:=by
  intro a la hra hne q hq
  rcases hat with e|⟨b,e,hbb⟩
  ·
   exact hne q (e ▸ hq)
  ·
   intro e2
   have h1:=Kd.R_lt hra q e2.symm
   rw [e] at hq
   cases hq
   omega
 have n0:=hfar v0 l0 h.r0 h.a10
 have n2:=hfar v2 l2 h.r2 h.a12
 have sy : ∀ (a : Value),(∀ q,v'.ownBlock = some q → some q ≠ a.ownBlock) → ∀ q,a.ownBlock = some q → some q ≠ v'.ownBlock:=fun a hn q hq e => hn q e.symm hq.symm
 refine ⟨{ b:=blk_put hb2 1 v' rfl,hb:=h.hb,r1:=Kd.R_set hr hb2 (by decide) 1 v',r0:=Kd.R_set (Kd.R_grown2 h.r0 rfl hg (fun q e => h.a10 q e)) hb2 (by decide) 1 v',r2:=Kd.R_set (Kd.R_grown2 h.r2 rfl hg (fun q e => h.a12 q e)) hb2 (by decide) 1 v',a10:=n0,a12:=n2,a01:=sy _ n0,a21:=sy _ n2,a02:=h.a02,a20:=h.a20 },hB.setCell h.hb _⟩
theorem MOwn.put2 {w W w2 : World} {base g : Nat} {v0 v1 v2 v' : Value} {l0 l1 l2 : List S23} {x : S23} (h : MOwn W base g v0 v1 v2 l0 l1 l2) (hr : Kd.R k23 23 w2 base (fun _ => True) v' (l2 ++ [x])) (hg : W.grownBy w2 v2.ownBlock) (hB : Below base w w2) (hat : v'.ownBlock = v2.ownBlock ∨ ∃ b, v'.ownBlock = some b ∧ W.heap.size ≤ b) (hbz : base ≤ W.heap.size) :
  MOwn (w2.setCell ⟨g,2,none⟩ v') base g v0 v1 v' l0 l1 (l2 ++ [x]) ∧ Below base w (w2.setCell ⟨g,2,none⟩ v'):=by
 have hb2:=blk_grown h.b hg (Kd.R_ne h.r2 h.b (by decide))
 have hfar : ∀ (a : Value) (la : List S23),Kd.R k23 23 W base (fun _ => True) a la → (∀ q,v2.ownBlock = some q → some q ≠ a.ownBlock) → ∀ q,v'.ownBlock = some q → some q ≠ a.ownBlock:=by
  intro a la hra hne q hq
  rcases hat with e|⟨b,e,hbb⟩
  ·
   exact hne q (e ▸ hq)
  ·
   intro e2
   have h1:=Kd.R_lt hra q e2.symm
   rw [e] at hq
   cases hq
   omega
 have n0:=hfar v0 l0 h.r0 h.a20
 have n1:=hfar v1 l1 h.r1 h.a21
 have sy : ∀ (a : Value),(∀ q,v'.ownBlock = some q → some q ≠ a.ownBlock) → ∀ q,a.ownBlock = some q → some q ≠ v'.ownBlock:=fun a hn q hq e => hn q e.symm hq.symm
 refine ⟨{ b:=blk_put hb2 2 v' rfl,hb:=h.hb,r2:=Kd.R_set hr hb2 (by decide) 2 v',r0:=Kd.R_set (Kd.R_grown2 h.r0 rfl hg (fun q e => h.a20 q e)) hb2 (by decide) 2 v',r1:=Kd.R_set (Kd.R_grown2 h.r1 rfl hg (fun q e => h.a21 q e)) hb2 (by decide) 2 v',a20:=n0,a21:=n1,a02:=sy _ n0,a12:=sy _ n1,a01:=h.a01,a10:=h.a10 },hB.setCell h.hb _⟩
theorem put_0 (base g : Nat) (v0 v1 v2 : Value) (l0 l1 l2 : List S23) (what : ByteArray) (x : S23) (w : World) (hm : MOwn w base g v0 v1 v2 l0 l1 l2) (hw : what.toList = ([99, 108, 97, 115, 115] : List UInt8)) (hl : l0.length ≤ 1048576) (hbz : base ≤ w.heap.size) :
  Calls Tryz.prog 32 #[.pointer (some ⟨g,0,none⟩),.string what,.agg #[.string x.f0,.string x.f1]] w fun e w' => ∃ v',e = .returned (.tuple #[]) ∧ MOwn w' base g v' v1 v2 (l0 ++ [x]) l1 l2 ∧ Below base w w':=by
 have hlt:=blk_lt hm.b
 have hab:=below_alloc (Below.refl w.heap.size w) (Obj.cells #[.string x.f0,.string x.f1] 23)
 have had:=below_drew1 hab
 have HM:=aq (hm.below had hbz)
 have hcell : ((w.alloc (Obj.cells #[.string x.f0,.string x.f1] 23)).drew).cell? ⟨g,0,none⟩ = some v0:=blk_cell HM.out.b 0
 have q0:=aq hcell
 have qf : Aside0 (((w.alloc (Obj.cells #[.string x.f0,.string x.f1] 23)).drew).frozen? ⟨g,0,none⟩ = false):=⟨blk_frozen HM.out.b 0⟩
 have hpb : ((w.alloc (Obj.cells #[.string x.f0,.string x.f1] 23)).drew).heap[w.heap.size]? = some (Obj.cells #[.string x.f0,.string x.f1] 23 (0,0)):=World.alloc_heap_new w (Obj.cells #[.string x.f0,.string x.f1] 23)
 have q1 : Aside0 (((w.alloc (Obj.cells #[.string x.f0,.string x.f1] 23)).drew).cell? ⟨w.heap.size,0,none⟩ = some (.string x.f0)):=⟨blk_cell hpb 0⟩
 have q2 : Aside0 (((w.alloc (Obj.cells #[.string x.f0,.string x.f1] 23)).drew).cell? ⟨w.heap.size,1,none⟩ = some (.string x.f1)):=⟨blk_cell hpb 1⟩
 have q0' : Aside0 (∀ o,(((w.alloc (Obj.cells #[.string x.f0,.string x.f1] 23)).drew).alloc o).cell? ⟨g,0,none⟩ = some v0):=⟨fun o => ((below_alloc (Below.refl _ _) o).cell (World.block_lt_of_cell? _ _ q0.out)).trans q0.out⟩
 have q1' : Aside0 (∀ o,(((w.alloc (Obj.cells #[.string x.f0,.string x.f1] 23)).drew).alloc o).cell? ⟨w.heap.size,0,none⟩ = some (.string x.f0)):=⟨fun o => ((below_alloc (Below.refl _ _) o).cell (World.block_lt_of_cell? _ _ q1.out)).trans q1.out⟩
 have q2' : Aside0 (∀ o,(((w.alloc (Obj.cells #[.string x.f0,.string x.f1] 23)).drew).alloc o).cell? ⟨w.heap.size,1,none⟩ = some (.string x.f1)):=⟨fun o => ((below_alloc (Below.refl _ _) o).cell (World.block_lt_of_cell? _ _ q2.out)).trans q2.out⟩
 have HR:=aq HM.out.r0
 have HBw : Aside0 (Below base w ((w.alloc (Obj.cells #[.string x.f0,.string x.f1] 23)).drew)):=⟨had.mono hbz⟩
 have HBz : Aside0 (base ≤ ((w.alloc (Obj.cells #[.string x.f0,.string x.f1] 23)).drew).heap.size):=⟨Nat.le_trans hbz had.size⟩
 have HLn : Aside0 ((l0.length + 1) * 32 ≤ 140737488355328):=⟨by omega⟩
 have HGlt : Aside0 ((⟨g,0,none⟩ : Addr).block < ((w.alloc (Obj.cells #[.string x.f0,.string x.f1] 23)).drew).heap.size):=⟨blk_lt HM.out.b⟩
 have HGne : Aside0 (some g ≠ v0.ownBlock):=⟨Kd.R_ne HM.out.r0 HM.out.b (by decide)⟩
 have HPne : Aside0 (some w.heap.size ≠ v0.ownBlock):=⟨fun e => by have:=Kd.R_lt hm.r0 w.heap.size e.symm;omega⟩
 have n0 : (what.toList == ([99,108,97,115,115] : List UInt8)) = true:=by rw [hw];decide
 have m0 : (what.toList = ([99,108,97,115,115] : List UInt8)) = True:=by rw [hw];exact eq_true rfl
 have hg:=hlt
 clear hcell hpb hab had hm
 go_enter Tryz.func32,Tryz.ntmps32
 go_wp2_with fail
 refine start_ (n:=11) (S:=fun w' => w'.cell? ⟨g,0,none⟩ = some v0 ∧ w'.cell? ⟨w.heap.size,0,none⟩ = some (.string x.f0) ∧ w'.cell? ⟨w.heap.size,1,none⟩ = some (.string x.f1)) (ds:=[10]) #[false,false,false,false,false,false,false,false,false,false,false] (by kernel_rfl) rfl rfl ⟨q0.out,q1.out,q2.out⟩ (fun hHeld => ?_)
 refine pure_ (i:=0) (N:=some 9) (v:=?_) (a':=?_) #[true,false,false,false,false,false,false,false,false,false,false] rfl rfl (by kernel_rfl) (fun _ _ _ h => h) (Or.inl ⟨by rfl,?_⟩) ?_ ?_
 rotate_left
 ·
  intro w'
  go_simp
  with_reducible rfl
 rotate_left
 ·
  simp only [Act.put,List.setIfInBounds_toArray,List.set_cons_zero,List.set_cons_succ,i64_w,i32_w]
  rfl
 refine pure_ (i:=1) (N:=some 10) (v:=?_) (a':=?_) #[true,true,false,false,false,false,false,false,false,false,false] rfl rfl (by kernel_rfl) (fun _ _ _ h => h) (Or.inl ⟨by rfl,?_⟩) ?_ ?_
 rotate_left
 ·
  intro w'
  go_simp
  with_reducible rfl
 rotate_left
 ·
  simp only [Act.put,List.setIfInBounds_toArray,List.set_cons_zero,List.set_cons_succ,i64_w,i32_w]
  rfl
 refine pure_ (i:=2) (N:=some 11) (v:=?_) (a':=?_) #[true,true,true,false,false,false,false,false,false,false,false] rfl rfl (by kernel_rfl) (fun _ _ _ h => h) (Or.inl ⟨by rfl,?_⟩) ?_ ?_
 rotate_left
 ·
  intro w'
  go_simp
  with_reducible rfl
 rotate_left
 ·
  simp only [Act.put,List.setIfInBounds_toArray,List.set_cons_zero,List.set_cons_succ,i64_w,i32_w]
  rfl
 refine pure_ (i:=3) (N:=some 12) (v:=?_) (a':=?_) #[true,true,true,true,false,false,false,false,false,false,false] rfl rfl (by kernel_rfl) (fun _ _ _ h => h) (Or.inl ⟨by rfl,?_⟩) ?_ ?_
 rotate_left
 ·
  intro w'
  go_simp
  with_reducible rfl
 rotate_left
 ·
  simp only [Act.put,List.setIfInBounds_toArray,List.set_cons_zero,List.set_cons_succ,i64_w,i32_w]
  rfl
 refine take_ (i:=4) (N:=some 13) (v:=?_) (a':=?_) #[true,true,true,true,true,false,false,false,false,false,false] rfl rfl (by kernel_rfl) (fun _ _ _ h => h) (Or.inl ⟨by rfl,?_⟩) hHeld ?_ ?_
 rotate_left
 ·
  rintro w' ⟨s0,s1,s2⟩
  go_simp
  with_reducible rfl
 rotate_left
 ·
  simp only [Act.put,List.setIfInBounds_toArray,List.set_cons_zero,List.set_cons_succ,i64_w,i32_w]
  rfl
 refine take_ (i:=5) (N:=some 14) (v:=?_) (a':=?_) #[true,true,true,true,true,true,false,false,false,false,false] rfl rfl (by kernel_rfl) (fun _ _ _ h => h) (Or.inl ⟨by rfl,?_⟩) hHeld ?_ ?_
 rotate_left
 ·
  rintro w' ⟨s0,s1,s2⟩
  go_simp
  with_reducible rfl
 rotate_left
 ·
  simp only [Act.put,List.setIfInBounds_toArray,List.set_cons_zero,List.set_cons_succ,i64_w,i32_w]
  rfl
 refine one_ (i:=6) (N:=some 15) #[true,true,true,true,true,true,true,false,false,false,false] rfl rfl (by kernel_rfl) (by decide) (fun K hK => ?_)
 refine value_ (w1:=?_) (v:=?_) (by rfl) rfl ?_ ?_
 rotate_left 2
 ·
  go_simp
  constructor
  ·
   rfl
  ·
   rfl
 refine hK.out _ _ ⟨(q0'.out _),(q1'.out _),(q2'.out _)⟩ (fun hHeld => ?_)
 clear hK K
 refine norm_ (a':=?_) ?_ ?_
 rotate_left
 ·
  show Act.put _ (some 15) _ = _
  simp only [Act.put,List.setIfInBounds_toArray,List.set_cons_zero,List.set_cons_succ,i64_w,i32_w]
  rfl
 refine one_ (i:=7) (N:=some 16) #[true,true,true,true,true,true,true,true,false,false,false] rfl rfl (by kernel_rfl) (by decide) (fun K hK => ?_)
 refine Kd.R_append_step k23 (w0:=w) base (by rfl) _ _ 32 23 (.agg #[.string ⟨#[]⟩,.string ⟨#[]⟩]) 32 rfl Tryz.underlying32 pair_info rfl (by decide) (by decide) v0 l0 x [.string x.f0,.string x.f1] (fun _ => True) (fun _ => False) rfl (by first|rfl|(show Value.slice (some ⟨w.heap.size + 1,0,none⟩) 1 1 = Value.slice (some ⟨((w.alloc (Obj.cells #[.string x.f0,.string x.f1] 23)).drew).heap.size,0,none⟩) 1 1;rw [show ((w.alloc (Obj.cells #[.string x.f0,.string x.f1] 23)).drew).heap.size = w.heap.size + 1 from World.size_alloc w _])) (k23_mkM _ _ _ x) (fun _ hk => hk.elim) (fun _ _ => trivial) HR.out HBw.out HBz.out HLn.out ?_
 intro v' w2 hR2 hB2 hg2 hat2
 obtain ⟨Av,nv,cv,hv⟩ : ∃ A n c,v' = Value.slice A n c:=by obtain ⟨A,c,e⟩:=Kd.R_slice hR2;exact ⟨A,_,c,e⟩
 subst hv
 have HR2:=aq hR2
 have HB2:=aq hB2
 have HG2:=aq hg2
 have HT2:=aq hat2
 have t0:=hg2.cell q0.out HGne.out
 have tf:=(hg2.frozen_far ⟨g,0,none⟩ HGlt.out HGne.out).trans qf.out
 have t1:=hg2.cell q1.out HPne.out
 have t2:=hg2.cell q2.out HPne.out
 clear hR2 hB2 hg2 hat2
 refine hK.out _ _ ⟨t0,t1,t2⟩ (fun hHeld => ?_)
 clear hK K
 refine norm_ (a':=?_) ?_ ?_
 rotate_left
 ·
  show Act.put _ (some 16) _ = _
  simp only [Act.put,List.setIfInBounds_toArray,List.set_cons_zero,List.set_cons_succ,i64_w,i32_w]
  rfl
 refine pure_ (i:=8) (N:=some 17) (v:=?_) (a':=?_) #[true,true,true,true,true,true,true,true,true,false,false] rfl rfl (by kernel_rfl) (fun _ _ _ h => h) (Or.inl ⟨by rfl,?_⟩) ?_ ?_
 rotate_left
 ·
  intro w'
  go_simp
  with_reducible rfl
 rotate_left
 ·
  simp only [Act.put,List.setIfInBounds_toArray,List.set_cons_zero,List.set_cons_succ,i64_w,i32_w]
  rfl
 refine pure_ (i:=9) (N:=some 18) (v:=?_) (a':=?_) #[true,true,true,true,true,true,true,true,true,true,false] rfl rfl (by kernel_rfl) (fun _ _ _ h => h) (Or.inl ⟨by rfl,?_⟩) ?_ ?_
 rotate_left
 ·
  intro w'
  go_simp
  with_reducible rfl
 rotate_left
 ·
  simp only [Act.put,List.setIfInBounds_toArray,List.set_cons_zero,List.set_cons_succ,i64_w,i32_w]
  rfl
 refine last_ (i:=10) (N:=none) #[true,true,true,true,true,true,true,true,true,true,true] rfl rfl (by kernel_rfl) (by decide) (fun K hK => ?_)
 refine skip_ (w1:=?_) (by rfl) rfl ?_ ?_
 rotate_left
 ·
  go_simp
  rfl
 refine hK.out _ _ ?_
 clear hK K
 refine done_ (by kernel_rfl) ?_
 go_wp2_with fail
 have hfin:=HM.out.put0 HR2.out HG2.out HB2.out HT2.out HBz.out
 first
  | exact bodyPost_end (v:=.tuple #[]) (by simp [results,Tryz.results32,go_sem]) rfl ⟨_,rfl,hfin⟩
  | exact bodyPost_end (v:=.tuple #[]) (by simp [results,Tryz.f32,go_sem]) rfl ⟨_,rfl,hfin⟩
  | exact bodyPost_ret (v:=.tuple #[]) (by simp [results,Tryz.results32,go_sem]) rfl ⟨_,rfl,hfin⟩
theorem put_1 (base g : Nat) (v0 v1 v2 : Value) (l0 l1 l2 : List S23) (what : ByteArray) (x : S23) (w : World) (hm : MOwn w base g v0 v1 v2 l0 l1 l2) (hw : what.toList = ([102, 105, 101, 108, 100] : List UInt8)) (hl : l1.length ≤ 1048576) (hbz : base ≤ w.heap.size) :
  Calls Tryz.prog 32 #[.pointer (some ⟨g,0,none⟩),.string what,.agg #[.string x.f0,.string x.f1]] w fun e w' => ∃ v',e = .returned (.tuple #[]) ∧ MOwn w' base g v0 v' v2 l0 (l1 ++ [x]) l2 ∧ Below base w w':=by
 have hlt:=blk_lt hm.b
 have hab:=below_alloc (Below.refl w.heap.size w) (Obj.cells #[.string x.f0,.string x.f1] 23)
 have had:=below_drew1 hab
 have HM:=aq (hm.below had hbz)
 have hcell : ((w.alloc (Obj.cells #[.string x.f0,.string x.f1] 23)).drew).cell? ⟨g,1,none⟩ = some v1:=blk_cell HM.out.b 1
 have q0:=aq hcell
 have qf : Aside0 (((w.alloc (Obj.cells #[.string x.f0,.string x.f1] 23)).drew).frozen? ⟨g,1,none⟩ = false):=⟨blk_frozen HM.out.b 1⟩
 have hpb : ((w.alloc (Obj.cells #[.string x.f0,.string x.f1] 23)).drew).heap[w.heap.size]? = some (Obj.cells #[.string x.f0,.string x.f1] 23 (0,0)):=World.alloc_heap_new w (Obj.cells #[.string x.f0,.string x.f1] 23)
 have q1 : Aside0 (((w.alloc (Obj.cells #[.string x.f0,.string x.f1] 23)).drew).cell? ⟨w.heap.size,0,none⟩ = some (.string x.f0)):=⟨blk_cell hpb 0⟩
 have q2 : Aside0 (((w.alloc (Obj.cells #[.string x.f0,.string x.f1] 23)).drew).cell? ⟨w.heap.size,1,none⟩ = some (.string x.f1)):=⟨blk_cell hpb 1⟩
 have q0' : Aside0 (∀ o,(((w.alloc (Obj.cells #[.string x.f0,.string x.f1] 23)).drew).alloc o).cell? ⟨g,1,none⟩ = some v1):=⟨fun o => ((below_alloc (Below.refl _ _) o).cell (World.block_lt_of_cell? _ _ q0.out)).trans q0.out⟩
 have q1' : Aside0 (∀ o,(((w.alloc (Obj.cells #[.string x.f0,.string x.f1] 23)).drew).alloc o).cell? ⟨w.heap.size,0,none⟩ = some (.string x.f0)):=⟨fun o => ((below_alloc (Below.refl _ _) o).cell (World.block_lt_of_cell? _ _ q1.out)).trans q1.out⟩
 have q2' : Aside0 (∀ o,(((w.alloc (Obj.cells #[.string x.f0,.string x.f1] 23)).drew).alloc o).cell? ⟨w.heap.size,1,none⟩ = some (.string x.f1)):=⟨fun o => ((below_alloc (Below.refl _ _) o).cell (World.block_lt_of_cell? _ _ q2.out)).trans q2.out⟩
 have HR:=aq HM.out.r1
 have HBw : Aside0 (Below base w ((w.alloc (Obj.cells #[.string x.f0,.string x.f1] 23)).drew)):=⟨had.mono hbz⟩
 have HBz : Aside0 (base ≤ ((w.alloc (Obj.cells #[.string x.f0,.string x.f1] 23)).drew).heap.size):=⟨Nat.le_trans hbz had.size⟩
 have HLn : Aside0 ((l1.length + 1) * 32 ≤ 140737488355328):=⟨by omega⟩
 have HGlt : Aside0 ((⟨g,1,none⟩ : Addr).block < ((w.alloc (Obj.cells #[.string x.f0,.string x.f1] 23)).drew).heap.size):=⟨blk_lt HM.out.b⟩
 have HGne : Aside0 (some g ≠ v1.ownBlock):=⟨Kd.R_ne HM.out.r1 HM.out.b (by decide)⟩
 have HPne : Aside0 (some w.heap.size ≠ v1.ownBlock):=⟨fun e => by have:=Kd.R_lt hm.r1 w.heap.size e.symm;omega⟩
 have n0 : (what.toList == ([99,108,97,115,115] : List UInt8)) = false:=by rw [hw];decide
 have m0 : (what.toList = ([99,108,97,115,115] : List UInt8)) = False:=by rw [hw];exact eq_false (by decide)
 have n1 : (what.toList == ([102,105,101,108,100] : List UInt8)) = true:=by rw [hw];decide
 have m1 : (what.toList = ([102,105,101,108,100] : List UInt8)) = True:=by rw [hw];exact eq_true rfl
 have hg:=hlt
 clear hcell hpb hab had hm
 go_enter Tryz.func32,Tryz.ntmps32
 go_wp2_with fail
 refine start_ (n:=11) (S:=fun w' => w'.cell? ⟨g,1,none⟩ = some v1 ∧ w'.cell? ⟨w.heap.size,0,none⟩ = some (.string x.f0) ∧ w'.cell? ⟨w.heap.size,1,none⟩ = some (.string x.f1)) (ds:=[10]) #[false,false,false,false,false,false,false,false,false,false,false] (by kernel_rfl) rfl rfl ⟨q0.out,q1.out,q2.out⟩ (fun hHeld => ?_)
 refine pure_ (i:=0) (N:=some 21) (v:=?_) (a':=?_) #[true,false,false,false,false,false,false,false,false,false,false] rfl rfl (by kernel_rfl) (fun _ _ _ h => h) (Or.inl ⟨by rfl,?_⟩) ?_ ?_
 rotate_left
 ·
  intro w'
  go_simp
  with_reducible rfl
 rotate_left
 ·
  simp only [Act.put,List.setIfInBounds_toArray,List.set_cons_zero,List.set_cons_succ,i64_w,i32_w]
  rfl
 refine pure_ (i:=1) (N:=some 22) (v:=?_) (a':=?_) #[true,true,false,false,false,false,false,false,false,false,false] rfl rfl (by kernel_rfl) (fun _ _ _ h => h) (Or.inl ⟨by rfl,?_⟩) ?_ ?_
 rotate_left
 ·
  intro w'
  go_simp
  with_reducible rfl
 rotate_left
 ·
  simp only [Act.put,List.setIfInBounds_toArray,List.set_cons_zero,List.set_cons_succ,i64_w,i32_w]
  rfl
 refine pure_ (i:=2) (N:=some 23) (v:=?_) (a':=?_) #[true,true,true,false,false,false,false,false,false,false,false] rfl rfl (by kernel_rfl) (fun _ _ _ h => h) (Or.inl ⟨by rfl,?_⟩) ?_ ?_
 rotate_left
 ·
  intro w'
  go_simp
  with_reducible rfl
 rotate_left
 ·
  simp only [Act.put,List.setIfInBounds_toArray,List.set_cons_zero,List.set_cons_succ,i64_w,i32_w]
  rfl
 refine pure_ (i:=3) (N:=some 24) (v:=?_) (a':=?_) #[true,true,true,true,false,false,false,false,false,false,false] rfl rfl (by kernel_rfl) (fun _ _ _ h => h) (Or.inl ⟨by rfl,?_⟩) ?_ ?_
 rotate_left
 ·
  intro w'
  go_simp
  with_reducible rfl
 rotate_left
 ·
  simp only [Act.put,List.setIfInBounds_toArray,List.set_cons_zero,List.set_cons_succ,i64_w,i32_w]
  rfl
 refine take_ (i:=4) (N:=some 25) (v:=?_) (a':=?_) #[true,true,true,true,true,false,false,false,false,false,false] rfl rfl (by kernel_rfl) (fun _ _ _ h => h) (Or.inl ⟨by rfl,?_⟩) hHeld ?_ ?_
 rotate_left
 ·
  rintro w' ⟨s0,s1,s2⟩
  go_simp
  with_reducible rfl
 rotate_left
 ·
  simp only [Act.put,List.setIfInBounds_toArray,List.set_cons_zero,List.set_cons_succ,i64_w,i32_w]
  rfl
 refine take_ (i:=5) (N:=some 26) (v:=?_) (a':=?_) #[true,true,true,true,true,true,false,false,false,false,false] rfl rfl (by kernel_rfl) (fun _ _ _ h => h) (Or.inl ⟨by rfl,?_⟩) hHeld ?_ ?_
 rotate_left
 ·
  rintro w' ⟨s0,s1,s2⟩
  go_simp
  with_reducible rfl
 rotate_left
 ·
  simp only [Act.put,List.setIfInBounds_toArray,List.set_cons_zero,List.set_cons_succ,i64_w,i32_w]
  rfl
 refine one_ (i:=6) (N:=some 27) #[true,true,true,true,true,true,true,false,false,false,false] rfl rfl (by kernel_rfl) (by decide) (fun K hK => ?_)
 refine value_ (w1:=?_) (v:=?_) (by rfl) rfl ?_ ?_
 rotate_left 2
 ·
  go_simp
  constructor
  ·
   rfl
  ·
   rfl
 refine hK.out _ _ ⟨(q0'.out _),(q1'.out _),(q2'.out _)⟩ (fun hHeld => ?_)
 clear hK K
 refine norm_ (a':=?_) ?_ ?_
 rotate_left
 ·
  show Act.put _ (some 27) _ = _
  simp only [Act.put,List.setIfInBounds_toArray,List.set_cons_zero,List.set_cons_succ,i64_w,i32_w]
  rfl
 refine one_ (i:=7) (N:=some 28) #[true,true,true,true,true,true,true,true,false,false,false] rfl rfl (by kernel_rfl) (by decide) (fun K hK => ?_)
 refine Kd.R_append_step k23 (w0:=w) base (by rfl) _ _ 32 23 (.agg #[.string ⟨#[]⟩,.string ⟨#[]⟩]) 32 rfl Tryz.underlying32 pair_info rfl (by decide) (by decide) v1 l1 x [.string x.f0,.string x.f1] (fun _ => True) (fun _ => False) rfl (by first|rfl|(show Value.slice (some ⟨w.heap.size + 1,0,none⟩) 1 1 = Value.slice (some ⟨((w.alloc (Obj.cells #[.string x.f0,.string x.f1] 23)).drew).heap.size,0,none⟩) 1 1;rw [show ((w.alloc (Obj.cells #[.string x.f0,.string x.f1] 23)).drew).heap.size = w.heap.size + 1 from World.size_alloc w _])) (k23_mkM _ _ _ x) (fun _ hk => hk.elim) (fun _ _ => trivial) HR.out HBw.out HBz.out HLn.out ?_
 intro v' w2 hR2 hB2 hg2 hat2
 obtain ⟨Av,nv,cv,hv⟩ : ∃ A n c,v' = Value.slice A n c:=by obtain ⟨A,c,e⟩:=Kd.R_slice hR2;exact ⟨A,_,c,e⟩
 subst hv
 have HR2:=aq hR2
 have HB2:=aq hB2
 have HG2:=aq hg2
 have HT2:=aq hat2
 have t0:=hg2.cell q0.out HGne.out
 have tf:=(hg2.frozen_far ⟨g,1,none⟩ HGlt.out HGne.out).trans qf.out
 have t1:=hg2.cell q1.out HPne.out
 have t2:=hg2.cell q2.out HPne.out
 clear hR2 hB2 hg2 hat2
 refine hK.out _ _ ⟨t0,t1,t2⟩ (fun hHeld => ?_)
 clear hK K
 refine norm_ (a':=?_) ?_ ?_
 rotate_left
 ·
  show Act.put _ (some 28) _ = _
  simp only [Act.put,List.setIfInBounds_toArray,List.set_cons_zero,List.set_cons_succ,i64_w,i32_w]
  rfl
 refine pure_ (i:=8) (N:=some 29) (v:=?_) (a':=?_) #[true,true,true,true,true,true,true,true,true,false,false] rfl rfl (by kernel_rfl) (fun _ _ _ h => h) (Or.inl ⟨by rfl,?_⟩) ?_ ?_
 rotate_left
 ·
  intro w'
  go_simp
  with_reducible rfl
 rotate_left
 ·
  simp only [Act.put,List.setIfInBounds_toArray,List.set_cons_zero,List.set_cons_succ,i64_w,i32_w]
  rfl
 refine pure_ (i:=9) (N:=some 30) (v:=?_) (a':=?_) #[true,true,true,true,true,true,true,true,true,true,false] rfl rfl (by kernel_rfl) (fun _ _ _ h => h) (Or.inl ⟨by rfl,?_⟩) ?_ ?_
 rotate_left
 ·
  intro w'
  go_simp
  with_reducible rfl
 rotate_left
 ·
  simp only [Act.put,List.setIfInBounds_toArray,List.set_cons_zero,List.set_cons_succ,i64_w,i32_w]
  rfl
 refine last_ (i:=10) (N:=none) #[true,true,true,true,true,true,true,true,true,true,true] rfl rfl (by kernel_rfl) (by decide) (fun K hK => ?_)
 refine skip_ (w1:=?_) (by rfl) rfl ?_ ?_
 rotate_left
 ·
  go_simp
  rfl
 refine hK.out _ _ ?_
 clear hK K
 refine done_ (by kernel_rfl) ?_
 go_wp2_with fail
 have hfin:=HM.out.put1 HR2.out HG2.out HB2.out HT2.out HBz.out
 first
  | exact bodyPost_end (v:=.tuple #[]) (by simp [results,Tryz.results32,go_sem]) rfl ⟨_,rfl,hfin⟩
  | exact bodyPost_end (v:=.tuple #[]) (by simp [results,Tryz.f32,go_sem]) rfl ⟨_,rfl,hfin⟩
  | exact bodyPost_ret (v:=.tuple #[]) (by simp [results,Tryz.results32,go_sem]) rfl ⟨_,rfl,hfin⟩
theorem put_2 (base g : Nat) (v0 v1 v2 : Value) (l0 l1 l2 : List S23) (what : ByteArray) (x : S23) (w : World) (hm : MOwn w base g v0 v1 v2 l0 l1 l2) (hw : what.toList = ([109, 101, 116, 104, 111, 100] : List UInt8)) (hl : l2.length ≤ 1048576) (hbz : base ≤ w.heap.size) :
  Calls Tryz.prog 32 #[.pointer (some ⟨g,0,none⟩),.string what,.agg #[.string x.f0,.string x.f1]] w fun e w' => ∃ v',e = .returned (.tuple #[]) ∧ MOwn w' base g v0 v1 v' l0 l1 (l2 ++ [x]) ∧ Below base w w':=by
 have hlt:=blk_lt hm.b
 have hab:=below_alloc (Below.refl w.heap.size w) (Obj.cells #[.string x.f0,.string x.f1] 23)
 have had:=below_drew1 hab
 have HM:=aq (hm.below had hbz)
 have hcell : ((w.alloc (Obj.cells #[.string x.f0,.string x.f1] 23)).drew).cell? ⟨g,2,none⟩ = some v2:=blk_cell HM.out.b 2
 have q0:=aq hcell
 have qf : Aside0 (((w.alloc (Obj.cells #[.string x.f0,.string x.f1] 23)).drew).frozen? ⟨g,2,none⟩ = false):=⟨blk_frozen HM.out.b 2⟩
 have hpb : ((w.alloc (Obj.cells #[.string x.f0,.string x.f1] 23)).drew).heap[w.heap.size]? = some (Obj.cells #[.string x.f0,.string x.f1] 23 (0,0)):=World.alloc_heap_new w (Obj.cells #[.string x.f0,.string x.f1] 23)
 have q1 : Aside0 (((w.alloc (Obj.cells #[.string x.f0,.string x.f1] 23)).drew).cell? ⟨w.heap.size,0,none⟩ = some (.string x.f0)):=⟨blk_cell hpb 0⟩
 have q2 : Aside0 (((w.alloc (Obj.cells #[.string x.f0,.string x.f1] 23)).drew).cell? ⟨w.heap.size,1,none⟩ = some (.string x.f1)):=⟨blk_cell hpb 1⟩
 have q0' : Aside0 (∀ o,(((w.alloc (Obj.cells #[.string x.f0,.string x.f1] 23)).drew).alloc o).cell? ⟨g,2,none⟩ = some v2):=⟨fun o => ((below_alloc (Below.refl _ _) o).cell (World.block_lt_of_cell? _ _ q0.out)).trans q0.out⟩
 have q1' : Aside0 (∀ o,(((w.alloc (Obj.cells #[.string x.f0,.string x.f1] 23)).drew).alloc o).cell? ⟨w.heap.size,0,none⟩ = some (.string x.f0)):=⟨fun o => ((below_alloc (Below.refl _ _) o).cell (World.block_lt_of_cell? _ _ q1.out)).trans q1.out⟩
 have q2' : Aside0 (∀ o,(((w.alloc (Obj.cells #[.string x.f0,.string x.f1] 23)).drew).alloc o).cell? ⟨w.heap.size,1,none⟩ = some (.string x.f1)):=⟨fun o => ((below_alloc (Below.refl _ _) o).cell (World.block_lt_of_cell? _ _ q2.out)).trans q2.out⟩
 have HR:=aq HM.out.r2
 have HBw : Aside0 (Below base w ((w.alloc (Obj.cells #[.string x.f0,.string x.f1] 23)).drew)):=⟨had.mono hbz⟩
 have HBz : Aside0 (base ≤ ((w.alloc (Obj.cells #[.string x.f0,.string x.f1] 23)).drew).heap.size):=⟨Nat.le_trans hbz had.size⟩
 have HLn : Aside0 ((l2.length + 1) * 32 ≤ 140737488355328):=⟨by omega⟩
 have HGlt : Aside0 ((⟨g,2,none⟩ : Addr).block < ((w.alloc (Obj.cells #[.string x.f0,.string x.f1] 23)).drew).heap.size):=⟨blk_lt HM.out.b⟩
 have HGne : Aside0 (some g ≠ v2.ownBlock):=⟨Kd.R_ne HM.out.r2 HM.out.b (by decide)⟩
 have HPne : Aside0 (some w.heap.size ≠ v2.ownBlock):=⟨fun e => by have:=Kd.R_lt hm.r2 w.heap.size e.symm;omega⟩
 have n0 : (what.toList == ([99,108,97,115,115] : List UInt8)) = false:=by rw [hw];decide
 have m0 : (what.toList = ([99,108,97,115,115] : List UInt8)) = False:=by rw [hw];exact eq_false (by decide)
 have n1 : (what.toList == ([102,105,101,108,100] : List UInt8)) = false:=by rw [hw];decide
 have m1 : (what.toList = ([102,105,101,108,100] : List UInt8)) = False:=by rw [hw];exact eq_false (by decide)
 have n2 : (what.toList == ([109,101,116,104,111,100] : List UInt8)) = true:=by rw [hw];decide
 have m2 : (what.toList = ([109,101,116,104,111,100] : List UInt8)) = True:=by rw [hw];exact eq_true rfl
 have hg:=hlt
 clear hcell hpb hab had hm
 go_enter Tryz.func32,Tryz.ntmps32
 go_wp2_with fail
 refine start_ (n:=11) (S:=fun w' => w'.cell? ⟨g,2,none⟩ = some v2 ∧ w'.cell? ⟨w.heap.size,0,none⟩ = some (.string x.f0) ∧ w'.cell? ⟨w.heap.size,1,none⟩ = some (.string x.f1)) (ds:=[10]) #[false,false,false,false,false,false,false,false,false,false,false] (by kernel_rfl) rfl rfl ⟨q0.out,q1.out,q2.out⟩ (fun hHeld => ?_)
 refine pure_ (i:=0) (N:=some 33) (v:=?_) (a':=?_) #[true,false,false,false,false,false,false,false,false,false,false] rfl rfl (by kernel_rfl) (fun _ _ _ h => h) (Or.inl ⟨by rfl,?_⟩) ?_ ?_
 rotate_left
 ·
  intro w'
  go_simp
  with_reducible rfl
 rotate_left
 ·
  simp only [Act.put,List.setIfInBounds_toArray,List.set_cons_zero,List.set_cons_succ,i64_w,i32_w]
  rfl
 refine pure_ (i:=1) (N:=some 34) (v:=?_) (a':=?_) #[true,true,false,false,false,false,false,false,false,false,false] rfl rfl (by kernel_rfl) (fun _ _ _ h => h) (Or.inl ⟨by rfl,?_⟩) ?_ ?_
 rotate_left
 ·
  intro w'
  go_simp
  with_reducible rfl
 rotate_left
 ·
  simp only [Act.put,List.setIfInBounds_toArray,List.set_cons_zero,List.set_cons_succ,i64_w,i32_w]
  rfl
 refine pure_ (i:=2) (N:=some 35) (v:=?_) (a':=?_) #[true,true,true,false,false,false,false,false,false,false,false] rfl rfl (by kernel_rfl) (fun _ _ _ h => h) (Or.inl ⟨by rfl,?_⟩) ?_ ?_
 rotate_left
 ·
  intro w'
  go_simp
  with_reducible rfl
 rotate_left
 ·
  simp only [Act.put,List.setIfInBounds_toArray,List.set_cons_zero,List.set_cons_succ,i64_w,i32_w]
  rfl
 refine pure_ (i:=3) (N:=some 36) (v:=?_) (a':=?_) #[true,true,true,true,false,false,false,false,false,false,false] rfl rfl (by kernel_rfl) (fun _ _ _ h => h) (Or.inl ⟨by rfl,?_⟩) ?_ ?_
 rotate_left
 ·
  intro w'
  go_simp
  with_reducible rfl
 rotate_left
 ·
  simp only [Act.put,List.setIfInBounds_toArray,List.set_cons_zero,List.set_cons_succ,i64_w,i32_w]
  rfl
 refine take_ (i:=4) (N:=some 37) (v:=?_) (a':=?_) #[true,true,true,true,true,false,false,false,false,false,false] rfl rfl (by kernel_rfl) (fun _ _ _ h => h) (Or.inl ⟨by rfl,?_⟩) hHeld ?_ ?_
 rotate_left
 ·
  rintro w' ⟨s0,s1,s2⟩
  go_simp
  with_reducible rfl
 rotate_left
 ·
  simp only [Act.put,List.setIfInBounds_toArray,List.set_cons_zero,List.set_cons_succ,i64_w,i32_w]
  rfl
 refine take_ (i:=5) (N:=some 38) (v:=?_) (a':=?_) #[true,true,true,true,true,true,false,false,false,false,false] rfl rfl (by kernel_rfl) (fun _ _ _ h => h) (Or.inl ⟨by rfl,?_⟩) hHeld ?_ ?_
 rotate_left
 ·
  rintro w' ⟨s0,s1,s2⟩
  go_simp
  with_reducible rfl
 rotate_left
 ·
  simp only [Act.put,List.setIfInBounds_toArray,List.set_cons_zero,List.set_cons_succ,i64_w,i32_w]
  rfl
 refine one_ (i:=6) (N:=some 39) #[true,true,true,true,true,true,true,false,false,false,false] rfl rfl (by kernel_rfl) (by decide) (fun K hK => ?_)
 refine value_ (w1:=?_) (v:=?_) (by rfl) rfl ?_ ?_
 rotate_left 2
 ·
  go_simp
  constructor
  ·
   rfl
  ·
   rfl
 refine hK.out _ _ ⟨(q0'.out _),(q1'.out _),(q2'.out _)⟩ (fun hHeld => ?_)
 clear hK K
 refine norm_ (a':=?_) ?_ ?_
 rotate_left
 ·
  show Act.put _ (some 39) _ = _
  simp only [Act.put,List.setIfInBounds_toArray,List.set_cons_zero,List.set_cons_succ,i64_w,i32_w]
  rfl
 refine one_ (i:=7) (N:=some 40) #[true,true,true,true,true,true,true,true,false,false,false] rfl rfl (by kernel_rfl) (by decide) (fun K hK => ?_)
 refine Kd.R_append_step k23 (w0:=w) base (by rfl) _ _ 32 23 (.agg #[.string ⟨#[]⟩,.string ⟨#[]⟩]) 32 rfl Tryz.underlying32 pair_info rfl (by decide) (by decide) v2 l2 x [.string x.f0,.string x.f1] (fun _ => True) (fun _ => False) rfl (by first|rfl|(show Value.slice (some ⟨w.heap.size + 1,0,none⟩) 1 1 = Value.slice (some ⟨((w.alloc (Obj.cells #[.string x.f0,.string x.f1] 23)).drew).heap.size,0,none⟩) 1 1;rw [show ((w.alloc (Obj.cells #[.string x.f0,.string x.f1] 23)).drew).heap.size = w.heap.size + 1 from World.size_alloc w _])) (k23_mkM _ _ _ x) (fun _ hk => hk.elim) (fun _ _ => trivial) HR.out HBw.out HBz.out HLn.out ?_
 intro v' w2 hR2 hB2 hg2 hat2
 obtain ⟨Av,nv,cv,hv⟩ : ∃ A n c,v' = Value.slice A n c:=by obtain ⟨A,c,e⟩:=Kd.R_slice hR2;exact ⟨A,_,c,e⟩
 subst hv
 have HR2:=aq hR2
 have HB2:=aq hB2
 have HG2:=aq hg2
 have HT2:=aq hat2
 have t0:=hg2.cell q0.out HGne.out
 have tf:=(hg2.frozen_far ⟨g,2,none⟩ HGlt.out HGne.out).trans qf.out
 have t1:=hg2.cell q1.out HPne.out
 have t2:=hg2.cell q2.out HPne.out
 clear hR2 hB2 hg2 hat2
 refine hK.out _ _ ⟨t0,t1,t2⟩ (fun hHeld => ?_)
 clear hK K
 refine norm_ (a':=?_) ?_ ?_
 rotate_left
 ·
  show Act.put _ (some 40) _ = _
  simp only [Act.put,List.setIfInBounds_toArray,List.set_cons_zero,List.set_cons_succ,i64_w,i32_w]
  rfl
 refine pure_ (i:=8) (N:=some 41) (v:=?_) (a':=?_) #[true,true,true,true,true,true,true,true,true,false,false] rfl rfl (by kernel_rfl) (fun _ _ _ h => h) (Or.inl ⟨by rfl,?_⟩) ?_ ?_
 rotate_left
 ·
  intro w'
  go_simp
  with_reducible rfl
 rotate_left
 ·
  simp only [Act.put,List.setIfInBounds_toArray,List.set_cons_zero,List.set_cons_succ,i64_w,i32_w]
  rfl
 refine pure_ (i:=9) (N:=some 42) (v:=?_) (a':=?_) #[true,true,true,true,true,true,true,true,true,true,false] rfl rfl (by kernel_rfl) (fun _ _ _ h => h) (Or.inl ⟨by rfl,?_⟩) ?_ ?_
 rotate_left
 ·
  intro w'
  go_simp
  with_reducible rfl
 rotate_left
 ·
  simp only [Act.put,List.setIfInBounds_toArray,List.set_cons_zero,List.set_cons_succ,i64_w,i32_w]
  rfl
 refine last_ (i:=10) (N:=none) #[true,true,true,true,true,true,true,true,true,true,true] rfl rfl (by kernel_rfl) (by decide) (fun K hK => ?_)
 refine skip_ (w1:=?_) (by rfl) rfl ?_ ?_
 rotate_left
 ·
  go_simp
  rfl
 refine hK.out _ _ ?_
 clear hK K
 refine done_ (by kernel_rfl) ?_
 go_wp2_with fail
 have hfin:=HM.out.put2 HR2.out HG2.out HB2.out HT2.out HBz.out
 first
  | exact bodyPost_end (v:=.tuple #[]) (by simp [results,Tryz.results32,go_sem]) rfl ⟨_,rfl,hfin⟩
  | exact bodyPost_end (v:=.tuple #[]) (by simp [results,Tryz.f32,go_sem]) rfl ⟨_,rfl,hfin⟩
  | exact bodyPost_ret (v:=.tuple #[]) (by simp [results,Tryz.results32,go_sem]) rfl ⟨_,rfl,hfin⟩
end Go.Proofs.YtaokkkolbifdpaaGreatDoor.Hand
end
