import Derived.Test.YtmlbfepibfobaaaDoorMgTopLines0
import Derived.Test.YtmlbfepibfobaaaDoorProg
import Derived.Below
import Derived.Deep.Draws
import Derived.Deep.AppendLies
import Derived.Maps.AppendAt
import Derived.OwnWalk
import Derived.Laws.BytesArg
import Derived.Laws.MakeOwn
import Derived.Laws.OwnMore
import Derived.Deep.OwnRows
import Derived.Tactics
import Derived.Lib.ConvBytes
import Derived.Laws.Slices
import Derived.WalkKit
import Derived.KernelRfl
import Derived.RowKit3
import Derived.Deep.LoopGhost
import Derived.Deep.QuietTactic
import Derived.BigQuiet
import Derived.WideLaws
import Derived.Deep.DeepCutAuto
import Derived.Deep.CutBlock
import Derived.Deep.RegionHeld3
import Derived.Laws.Rows
import Derived.Lib.AppendStr
import Derived.ArgAppend
import Derived.Laws.IdiomCopy
import Derived.OrdersHeld
import Derived.Laws.BitsLemmas
import Derived.RowKit
import Derived.Test.YtmlbfepibfobaaaDoorWWords
import Derived.Test.YtmlbfepibfobaaaDoorWLast
import Derived.Test.YtmlbfepibfobaaaDoorWTab
import Derived.Test.YtmlbfepibfobaaaDoorWFour
import Derived.Test.YtmlbfepibfobaaaDoorWQPut
import Derived.Test.YtmlbfepibfobaaaDoorWApart
import Derived.Test.YtmlbfepibfobaaaDoorWArr
import Derived.Test.YtmlbfepibfobaaaDoorWZeros
import Derived.Test.YtmlbfepibfobaaaDoorWFoot
import Derived.Test.YtmlbfepibfobaaaDoorWKept
import Derived.Test.YtmlbfepibfobaaaDoorWShare
import Derived.Test.YtmlbfepibfobaaaDoorWN
import Derived.Test.YtmlbfepibfobaaaDoorWFootNe
import Derived.Test.YtmlbfepibfobaaaDoorWAt
import Derived.Test.YtmlbfepibfobaaaDoorWEqStruct
import Derived.Test.YtmlbfepibfobaaaDoorWRepsOne
import Derived.Test.YtmlbfepibfobaaaDoorWInv
import Derived.Test.YtmlbfepibfobaaaDoorWInvWords
import Derived.Test.YtmlbfepibfobaaaDoorWGuard
import Derived.Test.YtmlbfepibfobaaaDoorWNEv
import Derived.Test.YtmlbfepibfobaaaDoorWMore
import Derived.Shelf.Strings.Builder1
import Derived.Shelf.Strings.Builder2
import Derived.Shelf.Strings.OnBuilder
import Derived.Shelf.Strings.BuilderF
import Derived.Shelf.Strings.Search1
import Derived.Shelf.Strings.Search2
import Derived.Shelf.Strings.Search3
import Derived.Shelf.Strings.Cut
import Derived.Shelf.Strings.Count
import Derived.Shelf.LaysM
import Derived.Shelf.Strings.Shaped
import Derived.Shelf.Strings.LastIndex
import Derived.Shelf.GgClosure.StringsIndexFunc
import Derived.Ground.GgwProg
import Derived.Shelf.GgClosure.StringsIndexFuncTop
import Derived.Shelf.GgClosure.StringsRunes
import Derived.Shelf.Strings.Split
import Derived.Shelf.Unicode.Decode
import Derived.Shelf.Strings.RuneCount
import Derived.Shelf.Strings.Explode
import Derived.Shelf.Unicode.DecodeSlow
import Derived.Shelf.Unicode.DecodeAny
import Derived.Shelf.Strings.FuncGrows
import Derived.Ground.PaProg
import Derived.Shelf.Path.Small
section
namespace Go.Proofs.YtmlbfepibfobaaaDoor.Hand
open Go.RowKit Go.Proofs.YtmlbfepibfobaaaDoorW.PrintWords Go.Proofs.YtmlbfepibfobaaaDoorW.PrintLast Go.Proofs.YtmlbfepibfobaaaDoorW.PrintMore
set_option linter.unusedVariables false
set_option linter.unusedSimpArgs false

set_option hygiene false in
/-- One operation that yields, taken first: what is asked of a panic there speaks of the defers and of temporary 2 alone. -/
macro "kq " i:num N:num l:term : tactic => `(tactic| (refine take_ (i := $i) (N := some $N) (v := ?_) (a' := ?_) $l rfl rfl (by kernel_rfl) (fun _ _ _ h => ⟨h.1, h.2.1, (by have h2 := h.2.2.1; simpa [Act.put] using h2), h.2.2.2⟩) (Or.inl ⟨by rfl, ?_⟩) hHeld ?_ ?_; rotate_left; rintro w' ⟨s0, s1, s2, s3⟩; go_simp; (try with_reducible rfl); rotate_left; (simp only [Act.put, List.setIfInBounds_toArray, List.set_cons_zero, List.set_cons_succ, i64_w, i32_w]; rfl)))

set_option maxHeartbeats 8000000 in
set_option maxRecDepth 20000 in
theorem wire_End_some (b : Nat) (A : Option Addr) (c : Nat) (l : List Int) (m ix : Nat) (fa : Int) (w : World) (h : RdW w b A c l m ix 0 fa) (hf : RdF b A c l m) (hi : ix = m) :
    Calls Tryd.prog 30 #[.pointer (some ⟨b, 0, none⟩)] w fun x w' => x = .returned (.bool true) ∧ RdW w' b A c l m ix 0 fa ∧ w.grownBy w' (some b) := by
  obtain ⟨c0, c1, c2, c3, c4, f1, f3, f4⟩ := rd_cells h
  have H1 := Aside0.mk (wire_ready b A c l m ix 0 fa w h)
  have HR := Aside0.mk h
  have hd : ((ix : Int) == (m : Int)) = true := by rw [hi]; exact beq_self_eq_true _
  clear h hf
  go_enter_defers Tryd.func30, Tryd.ntmps30
  go_wp2_with (first | (go_at_call 71; refine H1.out.mono ?_; rintro e w1 ⟨rfl, rfl⟩))
  go_quiet ((go_at_call 73; exact Calls.quiet_of_same (wire_unless _ _ _)))
  go_wp2
  refine leaves_cons (f := 72) (args := #[.pointer (some ⟨b, 0, none⟩)]) (by simp) (by simp [go_sem]) ?_
  refine (wire_catch_idle ⟨b, 0, none⟩ _).mono ?_
  rintro e u' w'' ⟨rfl, rfl, rfl⟩
  simp [Leaves, settle, results, Tryd.results30, go_sem]
  exact ⟨rd_below HR.out (pw_below_drewN (Below.refl _ _) _), wgrown_drewN _ _ b⟩

set_option maxHeartbeats 8000000 in
set_option maxRecDepth 20000 in
theorem wire_End_none (b : Nat) (A : Option Addr) (c : Nat) (l : List Int) (m ix : Nat) (fa : Int) (w : World) (h : RdW w b A c l m ix 0 fa) (hf : RdF b A c l m) (hi : ix ≠ m) :
    Calls Tryd.prog 30 #[.pointer (some ⟨b, 0, none⟩)] w fun x w' => x = .returned (.bool false) ∧ RdW w' b A c l m ix 1 ix ∧ w.grownBy w' (some b) := by
  have H1 := Aside0.mk (wire_ready b A c l m ix 0 fa w h)
  have HA := Aside0.mk hf.far
  have hd : ((ix : Int) == (m : Int)) = false := beq_eq_false_iff_ne.2 (by omega)
  have hB := below_drew1 (Below.refl w.heap.size w)
  have h' := rd_below h hB
  obtain ⟨h0, h1, h2, h3, h4, f1, f3, f4⟩ := rd_cells h'
  have hs : w.drew.cell? ⟨b, 1, none⟩ = some (.int .i64 (ix : Int)) ∧ w.drew.cell? ⟨b, 2, none⟩ = some (.int .i64 (m : Int)) ∧ w.grownBy w.drew (some b) ∧ RdW w.drew b A c l m ix 0 fa := ⟨h1, h2, grown_of_below hB _, h'⟩
  clear h0 h1 h2 h3 h4 f1 f3 f4 hB h h' hf
  go_enter_defers Tryd.func30, Tryd.ntmps30
  go_wp2_with (first | (go_at_call 71; refine H1.out.mono ?_; rintro e w1 ⟨rfl, rfl⟩))
  refine Code.wp_mono (Q := fun e a w' => e = .panic (FailE 1 ix) ∧ a.defers = [{ target := Target.fn (Fn.func 72) #[], args := #[.pointer (some ⟨b, 0, none⟩)] }] ∧ a.tmps[2]? = some (.bool false) ∧ RdW w' b A c l m ix 0 fa ∧ w1.grownBy w' (some b)) ?_ ?_
  rotate_left
  refine start_ (n := 14) (S := fun w' => w'.cell? ⟨b, 1, none⟩ = some (.int .i64 (ix : Int)) ∧ w'.cell? ⟨b, 2, none⟩ = some (.int .i64 (m : Int)) ∧ w1.grownBy w' (some b) ∧ RdW w' b A c l m ix 0 fa) (ds := []) #[false, false, false, false, false, false, false, false, false, false, false, false, false, false] (by kernel_rfl) rfl rfl hs (fun hHeld => ?_)
  kq 0 7 #[true, false, false, false, false, false, false, false, false, false, false, false, false, false]
  kq 1 8 #[true, true, false, false, false, false, false, false, false, false, false, false, false, false]
  kq 2 9 #[true, true, true, false, false, false, false, false, false, false, false, false, false, false]
  kq 3 10 #[true, true, true, true, false, false, false, false, false, false, false, false, false, false]
  kq 4 11 #[true, true, true, true, true, false, false, false, false, false, false, false, false, false]
  kq 5 12 #[true, true, true, true, true, true, false, false, false, false, false, false, false, false]
  kq 6 13 #[true, true, true, true, true, true, true, false, false, false, false, false, false, false]
  kq 7 14 #[true, true, true, true, true, true, true, true, false, false, false, false, false, false]
  kq 8 15 #[true, true, true, true, true, true, true, true, true, false, false, false, false, false]
  kq 9 16 #[true, true, true, true, true, true, true, true, true, true, false, false, false, false]
  kq 10 17 #[true, true, true, true, true, true, true, true, true, true, true, false, false, false]
  kq 11 18 #[true, true, true, true, true, true, true, true, true, true, true, true, false, false]
  kq 12 19 #[true, true, true, true, true, true, true, true, true, true, true, true, true, false]
  refine one_ (i := 13) (N := some 20) #[true, true, true, true, true, true, true, true, true, true, true, true, true, true] rfl rfl (by kernel_rfl) (by decide) (fun K hK => ?_)
  refine goesP_ Tryd.func73 (by kernel_rfl) rfl #[.bool false, .int .i64 1, .int .i64 ix] (by rfl) rfl (by simp only [List.map_toArray, List.map_cons, List.map_nil]; rfl) ?_
  refine (wire_unless_not _ _ _).mono ?_
  rintro e w3 ⟨rfl, rfl⟩
  refine ⟨_, rfl, rfl, rfl, rfl, hHeld.2.2.2, hHeld.2.2.1⟩
  rotate_left
  rintro e ⟨tm, df⟩ w3 ⟨rfl, hdf, htm, hr3, hg3⟩
  dsimp only at hdf htm
  subst hdf
  refine leaves_cons (f := 72) (args := #[.pointer (some ⟨b, 0, none⟩)]) (by simp) (by simp [go_sem]) ?_
  refine (wire_catch b A c l m _ _ _ 1 ix [] _ hr3).mono ?_
  rintro e u' w'' ⟨rfl, rfl, k, rfl⟩
  simp [Leaves, settle, results, Tryd.results30, go_sem, htm]
  exact ⟨rd_fell hr3 HA.out 1 ix k, hg3.trans (fell_grown _ b 1 ix k)⟩

set_option maxHeartbeats 8000000 in
set_option maxRecDepth 20000 in
theorem wire_Fault (b : Nat) (A : Option Addr) (c : Nat) (l : List Int) (m ix : Nat) (e fa : Int) (w : World) (h : RdW w b A c l m ix e fa) :
    Calls Tryd.prog 20 #[.pointer (some ⟨b, 0, none⟩)] w fun x w' => x = .returned (.agg #[.int .i64 e, .int .i64 fa]) ∧ Below w.heap.size w w' := by
  have hlt := rd_lt h
  obtain ⟨c0, c1, c2, c3, c4, f1, f3, f4⟩ := rd_cells h
  clear h
  go_enter Tryd.func20, Tryd.ntmps20
  go_wp2
  refine ⟨rfl, .agg #[.int .i64 e, .int .i64 fa], by simp [results, Tryd.results20, go_sem], rfl, ?_⟩
  exact below_alloc (Below.refl _ _) _

set_option maxHeartbeats 8000000 in
set_option maxRecDepth 20000 in
theorem wire_Fault_nil (w : World) :
    Calls Tryd.prog 20 #[.pointer none] w fun x w' => x = .returned (.agg #[.int .i64 7, .int .i64 0]) ∧ Below w.heap.size w w' := by
  go_enter Tryd.func20, Tryd.ntmps20
  go_wp2
  refine ⟨rfl, .agg #[.int .i64 7, .int .i64 0], by simp [results, Tryd.results20, go_sem], rfl, ?_⟩
  exact below_alloc (Below.refl _ _) _

set_option maxHeartbeats 8000000 in
set_option maxRecDepth 20000 in
theorem wire_fault (e fa : Int) (w : World) :
    Calls Tryd.prog 121 #[.int .i64 e, .int .i64 fa] w fun x w' => x = .returned (.agg #[.int .i64 e, .int .i64 (if e = 0 then 0 else fa)]) ∧ Below w.heap.size w w' := by
  by_cases he : e = 0
  · subst he
    go_enter Tryd.func121, Tryd.ntmps121
    go_wp2
    refine ⟨rfl, .agg #[.int .i64 0, .int .i64 0], by simp [results, Tryd.results121, go_sem], rfl, ?_⟩
    exact below_alloc (Below.refl _ _) _
  · rw [if_neg he]
    have he' : (e == 0) = false := beq_eq_false_iff_ne.2 he
    go_enter Tryd.func121, Tryd.ntmps121
    go_wp2
    refine ⟨rfl, .agg #[.int .i64 e, .int .i64 fa], by simp [results, Tryd.results121, go_sem], rfl, ?_⟩
    exact below_alloc (Below.refl _ _) _

set_option maxHeartbeats 8000000 in
set_option maxRecDepth 20000 in
theorem wire_At (b : Nat) (A : Option Addr) (c : Nat) (l : List Int) (m ix : Nat) (e fa : Int) (w : World) (h : RdW w b A c l m ix e fa) :
    Calls Tryd.prog 34 #[.pointer (some ⟨b, 0, none⟩)] w fun x w' => x = .returned (.int .i64 (ix : Int)) ∧ w' = w := by
  obtain ⟨c0, c1, c2, c3, c4, f1, f3, f4⟩ := rd_cells h
  clear h
  go_enter Tryd.func34, Tryd.ntmps34
  go_wp2
  go_ret
  exact ⟨rfl, rfl⟩

set_option maxHeartbeats 8000000 in
set_option maxRecDepth 20000 in
theorem wire_Left (b : Nat) (A : Option Addr) (c : Nat) (l : List Int) (m ix : Nat) (e fa : Int) (w : World) (h : RdW w b A c l m ix e fa) (hm : m ≤ 140737488351232) (hi : ix ≤ m) :
    Calls Tryd.prog 35 #[.pointer (some ⟨b, 0, none⟩)] w fun x w' => x = .returned (.int .i64 (if e = 0 then (m : Int) - ix else 0)) ∧ Drawn0 w w' := by
  have H1 := Aside0.mk (wire_ready b A c l m ix e fa w h)
  obtain ⟨c0, c1, c2, c3, c4, f1, f3, f4⟩ := rd_cells h
  clear h
  by_cases he : e = 0
  · subst he
    have hw0 : IntKind.i64.wrap ((m : Int) - ix) = (m : Int) - ix := IntWalk.i64_in _ ⟨by omega, by omega⟩
    go_enter Tryd.func35, Tryd.ntmps35
    go_wp2_with (go_at_call 71; refine H1.out.mono ?_; rintro e w1 ⟨rfl, rfl⟩)
    go_quiet (fail)
    go_wp2
    go_ret
    exact ⟨rfl, ⟨_, rfl⟩⟩
  · have he' : (e == 0) = false := beq_eq_false_iff_ne.2 he
    rw [if_neg he]
    go_enter Tryd.func35, Tryd.ntmps35
    go_wp2_with (go_at_call 71; refine H1.out.mono ?_; rintro e w1 ⟨rfl, rfl⟩)
    go_ret
    exact ⟨rfl, Drawn0.refl _⟩

set_option maxHeartbeats 8000000 in
set_option maxRecDepth 20000 in
theorem wire_Fail (b : Nat) (A : Option Addr) (c : Nat) (l : List Int) (m ix : Nat) (e fa : Int) (w : World) (h : RdW w b A c l m ix e fa) (hf : RdF b A c l m) (y : Int) :
    Calls Tryd.prog 91 #[.pointer (some ⟨b, 0, none⟩), .int .i64 y] w fun x w' => x = .returned (.tuple #[]) ∧ RdW w' b A c l m ix (if e = 0 then y else e) (if e = 0 then (if y = 0 then 0 else (ix : Int)) else fa) ∧ w.grownBy w' (some b) := by
  have H1 := Aside0.mk (wire_ready b A c l m ix e fa w h)
  have HR := Aside0.mk h
  have HA := Aside0.mk hf.far
  have hlt := rd_lt h
  obtain ⟨c0, c1, c2, c3, c4, f1, f3, f4⟩ := rd_cells h
  clear h hf
  by_cases he : e = 0
  · subst he
    rw [if_pos rfl, if_pos rfl]
    obtain ⟨q, hq⟩ : ∃ q, q = (if y = 0 then 0 else (ix : Int)) := ⟨_, rfl⟩
    rw [← hq]
    have HF : Aside0 (∀ W, Calls Tryd.prog 121 #[.int .i64 y, .int .i64 (ix : Int)] W fun x w' => x = .returned (.agg #[.int .i64 y, .int .i64 q]) ∧ Below W.heap.size W w') := ⟨fun W => by rw [hq]; exact wire_fault y ix W⟩
    clear hq
    go_enter Tryd.func91, Tryd.ntmps91
    go_wp2_with (first | (go_at_call 71; refine H1.out.mono ?_; rintro e w1 ⟨rfl, rfl⟩) | (go_at_call 121; refine (HF.out _).mono ?_; rintro e w2 ⟨rfl, hb2⟩; obtain ⟨d0, d1, d2, d3, d4, g1, g3, g4⟩ := rd_cells (rd_below HR.out hb2)))
    go_end0
    exact ⟨rfl, rd_set4 (rd_set3 (rd_below HR.out hb2) HA.out _) HA.out _, ((grown_of_below hb2 _).trans (wgrown_setCell _ ⟨b, 3, none⟩ _)).trans (wgrown_setCell _ ⟨b, 4, none⟩ _)⟩
  · have he' : (e == 0) = false := beq_eq_false_iff_ne.2 he
    rw [if_neg he, if_neg he]
    go_enter Tryd.func91, Tryd.ntmps91
    go_wp2_with (go_at_call 71; refine H1.out.mono ?_; rintro e w1 ⟨rfl, rfl⟩)
    go_end0
    exact ⟨rfl, HR.out, grown_of_below (Below.refl _ _) _⟩

end Go.Proofs.YtmlbfepibfobaaaDoor.Hand
end

section
namespace Go.Proofs.YtmlbfepibfobaaaDoor.Hand
open Go.RowKit Go.Proofs.YtmlbfepibfobaaaDoorW.PrintWords Go.Proofs.YtmlbfepibfobaaaDoorW.PrintLast Go.Proofs.YtmlbfepibfobaaaDoorW.PrintMore
set_option linter.unusedVariables false
set_option linter.unusedSimpArgs false

theorem C_far {w : World} {A : Option Addr} {n : Nat} {xs : List Int} (h : Kd.C (Kd.int .u8) w A n xs) (hn : 0 < n) : ∀ ad, A = some ad → ad.block < w.heap.size := fun ad e => by
  subst e
  exact Kd.C_lt h hn (by decide)
set_option maxHeartbeats 4000000 in
theorem wire_Open (A0 : Option Addr) (c0 : Nat) (l : List Int) (w : World) (hr0 : Kd.C (Kd.int .u8) w A0 l.length l) (hc0 : l.length ≤ c0) (hb : l.all byteB = true) (hl : l.length ≤ 140737488351232) :
    Calls Tryd.prog 18 #[.slice A0 l.length c0] w fun x w' => (∃ b A c, x = .returned (.pointer (some ⟨b, 0, none⟩)) ∧ w.heap.size ≤ b ∧ RdW w' b A c l l.length 0 0 0 ∧ RdF b A c l l.length ∧ ∀ ad, A = some ad → w.heap.size ≤ ad.block ∧ ad.block < w'.heap.size) ∧ Below w.heap.size w w' := by
  have HC := Aside0.mk (slices_Clone_byte_byte.calls A0 c0 l l w hr0 hc0 (by unfold slices_Clone_byte_byte.f; rw [if_pos (by omega)]))
  clear hr0
  go_enter Tryd.func18, Tryd.ntmps18
  go_wp2_with (go_at_call 70; refine HC.out.mono ?_; rintro e w1 ⟨v0, rfl, hR, hB1⟩; obtain ⟨A, c, rfl, hc, hCC⟩ := Kd.R_reads hR)
  go_ret
  have hcells := World.alloc_heap_new w1 (.cells #[.slice A l.length c, .int .i64 0, .int .i64 (l.length : Int), .int .i64 0, .int .i64 0] 88)
  refine ⟨⟨w1.heap.size, A, c, rfl, hB1.size, ⟨hcells, Kd.C_alloc hCC _⟩, ⟨hc, hb, hl, Nat.le_refl _, ?_⟩, ?_⟩, below_alloc hB1 _⟩
  all_goals rintro ad rfl
  rotate_left
  · obtain ⟨g, rfl⟩ := Kd.R_head hR
    exact ⟨Kd.R_base hR g (by simp [Value.ownBlock]), Nat.lt_of_lt_of_le (Kd.R_lt hR g (by simp [Value.ownBlock])) (below_alloc (Below.refl _ w1) _).size⟩
  obtain ⟨g, rfl⟩ := Kd.R_head hR
  exact Nat.ne_of_lt (Kd.R_lt hR g (by simp [Value.ownBlock]))
theorem crc_grown {w w' : World} {b : Nat} (h : CrcTab w) (hg : w.grownBy w' (some b)) (hb : b ≠ 1) : CrcTab w' := fun i hi => by
  have h1 := h i hi
  rw [← h1]
  exact World.cell?_of_block (hg.block 1 (World.block_lt_of_cell? w _ h1) (fun e => hb (Option.some.inj e).symm))
theorem crc_ne {w : World} {b : Nat} {A : Option Addr} {c : Nat} {l : List Int} {m ix : Nat} {e fa : Int} (h : CrcTab w) (hr : RdW w b A c l m ix e fa) : b ≠ 1 := by
  rintro rfl
  have h0 := (rd_cells hr).1
  have h1 := h 0 (by decide)
  rw [h0] at h1
  cases h1
end Go.Proofs.YtmlbfepibfobaaaDoor.Hand
end

section
namespace Go.Proofs.YtmlbfepibfobaaaDoor.Hand
open Go.RowKit Go.Proofs.YtmlbfepibfobaaaDoorW.PrintWords Go.Proofs.YtmlbfepibfobaaaDoorW.PrintLast Go.Proofs.YtmlbfepibfobaaaDoorW.PrintMore
set_option linter.unusedVariables false
set_option linter.unusedSimpArgs false

set_option maxHeartbeats 1000000 in
set_option maxRecDepth 20000 in
theorem wire_Section_short (b : Nat) (A : Option Addr) (c : Nat) (l : List Int) (m ix : Nat) (fa : Int) (w : World) (h : RdW w b A c l m ix 0 fa) (hf : RdF b A c l m) (id : Int) (hi : m ≤ ix) :
    Calls Tryd.prog 19 #[.pointer (some ⟨b, 0, none⟩), .int .u8 id] w fun x w' => x = .returned (.pointer none) ∧ RdW w' b A c l m ix 2 ix ∧ w.grownBy w' (some b) := by
  have H1 := Aside0.mk (wire_ready b A c l m ix 0 fa w h)
  obtain ⟨c0, c1, c2, c3, c4, f1, f3, f4⟩ := rd_cells h
  have HA := Aside0.mk hf.far
  have H2 := Aside0.mk (wire_one_none b A c l m ix 0 fa w h hf hi)
  clear h hf
  go_enter_defers Tryd.func19, Tryd.ntmps19
  go_wp2_with (first | (go_at_call 71; refine H1.out.mono ?_; rintro e w1 ⟨rfl, rfl⟩) | (go_at_call 74; refine H2.out.mono ?_; rintro e w2 ⟨rfl, hr2, hg2⟩))
  refine leaves_cons (f := 72) (args := #[.pointer (some ⟨b, 0, none⟩)]) (by simp) (by simp [go_sem]) ?_
  refine (wire_catch b A c l m _ _ _ 2 (ix : Nat) [] _ hr2).mono ?_
  rintro e u' w'' ⟨rfl, rfl, k, rfl⟩
  simp [Leaves, settle, results, Tryd.results19, go_sem]
  exact ⟨rd_fell hr2 HA.out 2 (ix) k, hg2.trans (fell_grown _ b 2 (ix : Nat) k)⟩

set_option maxHeartbeats 1000000 in
set_option maxRecDepth 20000 in
theorem wire_Section_form (b : Nat) (A : Option Addr) (c : Nat) (l : List Int) (m ix : Nat) (fa : Int) (w : World) (h : RdW w b A c l m ix 0 fa) (hf : RdF b A c l m) (id : Int) (hi : ix < m) (hid0 : l.getD ix 0 ≠ id) :
    Calls Tryd.prog 19 #[.pointer (some ⟨b, 0, none⟩), .int .u8 id] w fun x w' => x = .returned (.pointer none) ∧ RdW w' b A c l m ix 1 ix ∧ w.grownBy w' (some b) := by
  have H1 := Aside0.mk (wire_ready b A c l m ix 0 fa w h)
  obtain ⟨c0, c1, c2, c3, c4, f1, f3, f4⟩ := rd_cells h
  have HA := Aside0.mk hf.far
  have H2 := wire_one_some b A c l m ix 0 fa w h hf hi
  obtain ⟨z, hz⟩ : ∃ z, z = l.getD ix 0 := ⟨_, rfl⟩
  rw [← hz] at H2 hid0
  have H2 := Aside0.mk H2
  clear hz
  have hid : (z == id) = false := beq_eq_false_iff_ne.2 hid0
  clear h hf
  go_enter_defers Tryd.func19, Tryd.ntmps19
  go_wp2_with (first | (go_at_call 71; refine H1.out.mono ?_; rintro e w1 ⟨rfl, rfl⟩) | (go_at_call 74; refine H2.out.mono ?_; rintro e w2 ⟨rfl, hr2, hg2⟩) | (go_at_call 73; refine (wire_unless_not _ _ _).mono ?_; rintro e w0 ⟨rfl, rfl⟩))
  refine leaves_cons (f := 72) (args := #[.pointer (some ⟨b, 0, none⟩)]) (by simp) (by simp [go_sem]) ?_
  refine (wire_catch b A c l m _ _ _ 1 (ix : Nat) [] _ hr2).mono ?_
  rintro e u' w'' ⟨rfl, rfl, k, rfl⟩
  simp [Leaves, settle, results, Tryd.results19, go_sem]
  exact ⟨rd_fell hr2 HA.out 1 (ix) k, hg2.trans (fell_grown _ b 1 (ix : Nat) k)⟩

set_option maxHeartbeats 1000000 in
set_option maxRecDepth 20000 in
theorem wire_Section_bad (b : Nat) (A : Option Addr) (c : Nat) (l : List Int) (m ix : Nat) (fa : Int) (w : World) (h : RdW w b A c l m ix 0 fa) (hf : RdF b A c l m) (id : Int) (hi : ix < m) (hid0 : l.getD ix 0 = id) (v n y : Int) (ht : lebTake (l.take m) ((ix + 1 : Nat) : Int) = (v, n, y)) (hy : y ≠ 0) :
    Calls Tryd.prog 19 #[.pointer (some ⟨b, 0, none⟩), .int .u8 id] w fun x w' => x = .returned (.pointer none) ∧ RdW w' b A c l m (ix + 1) y (ix + 1 : Nat) ∧ w.grownBy w' (some b) := by
  have H1 := Aside0.mk (wire_ready b A c l m ix 0 fa w h)
  obtain ⟨c0, c1, c2, c3, c4, f1, f3, f4⟩ := rd_cells h
  have HA := Aside0.mk hf.far
  have H2 := wire_one_some b A c l m ix 0 fa w h hf hi
  obtain ⟨z, hz⟩ : ∃ z, z = l.getD ix 0 := ⟨_, rfl⟩
  rw [← hz] at H2 hid0
  have H2 := Aside0.mk H2
  clear hz
  have hid : (z == id) = true := by rw [hid0]; exact beq_self_eq_true _
  have H3 := Aside0.mk (fun W hr => wire_num_bad b A c l m (ix + 1) 0 fa W hr hf v n y ht hy 65536)
  clear h hf ht
  go_enter_defers Tryd.func19, Tryd.ntmps19
  go_wp2_with (first | (go_at_call 71; refine H1.out.mono ?_; rintro e w1 ⟨rfl, rfl⟩) | (go_at_call 74; refine H2.out.mono ?_; rintro e w2 ⟨rfl, hr2, hg2⟩) | (go_at_call 73; refine (wire_unless _ _ _).mono ?_; rintro e w0 ⟨rfl, rfl⟩) | (go_at_call 75; refine (H3.out _ hr2).mono ?_; rintro e w3 ⟨rfl, hr3, hg3⟩; obtain ⟨d0, d1, d2, d3, d4, g1, g3, g4⟩ := rd_cells hr3))
  refine leaves_cons (f := 72) (args := #[.pointer (some ⟨b, 0, none⟩)]) (by simp) (by simp [go_sem]) ?_
  refine (wire_catch b A c l m _ _ _ y (ix + 1 : Nat) [] _ hr3).mono ?_
  rintro e u' w'' ⟨rfl, rfl, k, rfl⟩
  simp [Leaves, settle, results, Tryd.results19, go_sem]
  exact ⟨rd_fell hr3 HA.out y (ix + 1) k, (hg2.trans hg3).trans (fell_grown _ b y (ix + 1 : Nat) k)⟩

set_option maxHeartbeats 1000000 in
set_option maxRecDepth 20000 in
theorem wire_Section_long (b : Nat) (A : Option Addr) (c : Nat) (l : List Int) (m ix : Nat) (fa : Int) (w : World) (h : RdW w b A c l m ix 0 fa) (hf : RdF b A c l m) (id : Int) (hi : ix < m) (hid0 : l.getD ix 0 = id) (v : Int) (n : Nat) (ht : lebTake (l.take m) ((ix + 1 : Nat) : Int) = (v, (n : Int), 0)) (h0 : 0 ≤ v) (h1 : 65536 < v) :
    Calls Tryd.prog 19 #[.pointer (some ⟨b, 0, none⟩), .int .u8 id] w fun x w' => x = .returned (.pointer none) ∧ RdW w' b A c l m (ix + 1) 3 (ix + 1 : Nat) ∧ w.grownBy w' (some b) := by
  have H1 := Aside0.mk (wire_ready b A c l m ix 0 fa w h)
  obtain ⟨c0, c1, c2, c3, c4, f1, f3, f4⟩ := rd_cells h
  have HA := Aside0.mk hf.far
  have H2 := wire_one_some b A c l m ix 0 fa w h hf hi
  obtain ⟨z, hz⟩ : ∃ z, z = l.getD ix 0 := ⟨_, rfl⟩
  rw [← hz] at H2 hid0
  have H2 := Aside0.mk H2
  clear hz
  have hid : (z == id) = true := by rw [hid0]; exact beq_self_eq_true _
  have H3 := Aside0.mk (fun W hr => wire_num_long b A c l m (ix + 1) 0 fa W hr hf v n ht 65536 h0 (by omega) (by omega))
  clear h hf ht
  go_enter_defers Tryd.func19, Tryd.ntmps19
  go_wp2_with (first | (go_at_call 71; refine H1.out.mono ?_; rintro e w1 ⟨rfl, rfl⟩) | (go_at_call 74; refine H2.out.mono ?_; rintro e w2 ⟨rfl, hr2, hg2⟩) | (go_at_call 73; refine (wire_unless _ _ _).mono ?_; rintro e w0 ⟨rfl, rfl⟩) | (go_at_call 75; refine (H3.out _ hr2).mono ?_; rintro e w3 ⟨rfl, hr3, hg3⟩; obtain ⟨d0, d1, d2, d3, d4, g1, g3, g4⟩ := rd_cells hr3))
  refine leaves_cons (f := 72) (args := #[.pointer (some ⟨b, 0, none⟩)]) (by simp) (by simp [go_sem]) ?_
  refine (wire_catch b A c l m _ _ _ 3 (ix + 1 : Nat) [] _ hr3).mono ?_
  rintro e u' w'' ⟨rfl, rfl, k, rfl⟩
  simp [Leaves, settle, results, Tryd.results19, go_sem]
  exact ⟨rd_fell hr3 HA.out 3 (ix + 1) k, (hg2.trans hg3).trans (fell_grown _ b 3 (ix + 1 : Nat) k)⟩

set_option maxHeartbeats 1000000 in
set_option maxRecDepth 20000 in
theorem wire_Section_cut (b : Nat) (A : Option Addr) (c : Nat) (l : List Int) (m ix : Nat) (fa : Int) (w : World) (h : RdW w b A c l m ix 0 fa) (hf : RdF b A c l m) (id : Int) (hi : ix < m) (hid0 : l.getD ix 0 = id) (v : Int) (n : Nat) (ht : lebTake (l.take m) ((ix + 1 : Nat) : Int) = (v, (n : Int), 0)) (j : Nat) (hv : v = (j : Int)) (h1 : j ≤ 65536) (hnm : n ≤ m) (hn : m < n + (j + 4)) :
    Calls Tryd.prog 19 #[.pointer (some ⟨b, 0, none⟩), .int .u8 id] w fun x w' => x = .returned (.pointer none) ∧ RdW w' b A c l m n 2 n ∧ w.grownBy w' (some b) := by
  have H1 := Aside0.mk (wire_ready b A c l m ix 0 fa w h)
  obtain ⟨c0, c1, c2, c3, c4, f1, f3, f4⟩ := rd_cells h
  have HA := Aside0.mk hf.far
  have H2 := wire_one_some b A c l m ix 0 fa w h hf hi
  obtain ⟨z, hz⟩ : ∃ z, z = l.getD ix 0 := ⟨_, rfl⟩
  rw [← hz] at H2 hid0
  have H2 := Aside0.mk H2
  clear hz
  have hid : (z == id) = true := by rw [hid0]; exact beq_self_eq_true _
  subst hv
  have H3 := Aside0.mk (fun W hr => wire_num_some b A c l m (ix + 1) 0 fa W hr hf (j : Int) n ht 65536 (by omega) (by omega) (by omega))
  have hsum : IntKind.i64.wrap ((j : Int) + 4) = ((j + 4 : Nat) : Int) := IntWalk.i64_in _ ⟨by omega, by omega⟩
  have hsum2 : wrap64 ((j : Int) + 4) = ((j + 4 : Nat) : Int) := w64 (by omega) (by omega)
  have HS := Aside0.mk (fun W hr => wire_some_none b A c l m n 0 fa W hr hf (j + 4) hnm hn (by omega))
  clear h hf ht
  go_enter_defers Tryd.func19, Tryd.ntmps19
  go_wp2_with (first | (go_at_call 71; refine H1.out.mono ?_; rintro e w1 ⟨rfl, rfl⟩) | (go_at_call 74; refine H2.out.mono ?_; rintro e w2 ⟨rfl, hr2, hg2⟩) | (go_at_call 73; refine (wire_unless _ _ _).mono ?_; rintro e w0 ⟨rfl, rfl⟩) | (go_at_call 75; refine (H3.out _ hr2).mono ?_; rintro e w3 ⟨rfl, hr3, hg3⟩; obtain ⟨d0, d1, d2, d3, d4, g1, g3, g4⟩ := rd_cells hr3) | (go_at_call 77; refine (HS.out _ hr3).mono ?_; rintro e w4 ⟨rfl, hr4, hg4⟩))
  refine leaves_cons (f := 72) (args := #[.pointer (some ⟨b, 0, none⟩)]) (by simp) (by simp [go_sem]) ?_
  refine (wire_catch b A c l m _ _ _ 2 (n : Nat) [] _ hr4).mono ?_
  rintro e u' w'' ⟨rfl, rfl, k, rfl⟩
  simp [Leaves, settle, results, Tryd.results19, go_sem]
  exact ⟨rd_fell hr4 HA.out 2 (n) k, ((hg2.trans hg3).trans hg4).trans (fell_grown _ b 2 (n : Nat) k)⟩

set_option maxHeartbeats 1000000 in
set_option maxRecDepth 20000 in
theorem wire_Section_sum (b : Nat) (A : Option Addr) (c : Nat) (l : List Int) (m ix : Nat) (fa : Int) (w : World) (h : RdW w b A c l m ix 0 fa) (hf : RdF b A c l m) (id : Int) (hG : CrcTab w) (hi : ix < m) (hid0 : l.getD ix 0 = id) (v : Int) (n : Nat) (ht : lebTake (l.take m) ((ix + 1 : Nat) : Int) = (v, (n : Int), 0)) (j : Nat) (hv : v = (j : Int)) (h1 : j ≤ 65536) (hn : n + (j + 4) ≤ m) (hy : (openL (cutN l n (j + 4))).2 ≠ 0) :
    Calls Tryd.prog 19 #[.pointer (some ⟨b, 0, none⟩), .int .u8 id] w fun x w' => x = .returned (.pointer none) ∧ RdW w' b A c l m n (openL (cutN l n (j + 4))).2 n ∧ w.grownBy w' (some b) := by
  have H1 := Aside0.mk (wire_ready b A c l m ix 0 fa w h)
  obtain ⟨c0, c1, c2, c3, c4, f1, f3, f4⟩ := rd_cells h
  have HA := Aside0.mk hf.far
  have H2 := wire_one_some b A c l m ix 0 fa w h hf hi
  obtain ⟨z, hz⟩ : ∃ z, z = l.getD ix 0 := ⟨_, rfl⟩
  rw [← hz] at H2 hid0
  have H2 := Aside0.mk H2
  clear hz
  have hid : (z == id) = true := by rw [hid0]; exact beq_self_eq_true _
  subst hv
  have H3 := Aside0.mk (fun W hr => wire_num_some b A c l m (ix + 1) 0 fa W hr hf (j : Int) n ht 65536 (by omega) (by omega) (by omega))
  have hsum : IntKind.i64.wrap ((j : Int) + 4) = ((j + 4 : Nat) : Int) := IntWalk.i64_in _ ⟨by omega, by omega⟩
  have hsum2 : wrap64 ((j : Int) + 4) = ((j + 4 : Nat) : Int) := w64 (by omega) (by omega)
  have HS := Aside0.mk (fun W hr => wire_some_some b A c l m n 0 fa W hr hf (j + 4) hn)
  have hm := hf.to_
  have hl := hf.len
  have hlen := cutN_len (l := l) (ix := n) (n := j + 4) (by omega)
  have hby : (cutN l n (j + 4)).all byteB = true := List.all_eq_true.2 (fun x hx => List.all_eq_true.1 hf.byt x (List.mem_of_mem_take (List.mem_of_mem_drop hx)))
  obtain ⟨r1, r2, hop⟩ : ∃ r1 r2, openL (cutN l n (j + 4)) = (r1, r2) := ⟨_, _, rfl⟩
  have HO : Aside0 (∀ A' W, Kd.C (Kd.int .u8) W A' (j + 4) (cutN l n (j + 4)) → CrcTab W → Calls Tryd.prog 76 #[.slice A' ((j + 4 : Nat)) (j + 4)] W fun e w' => ∃ v0_ : Value, e = .returned (.tuple #[v0_, .int .i64 r2]) ∧ Below W.heap.size W w') := ⟨fun A' W hC hG => by
    have := crc_Open.calls A' (j + 4) (cutN l n (j + 4)) r1 r2 W (by rw [hlen]; exact hC) (by omega) hG (by unfold crc_Open.f; rw [if_pos ⟨hby, by omega⟩, hop])
    rw [hlen] at this
    exact this.mono fun e w' ⟨v0, h1, _, h3⟩ => ⟨v0, h1, h3⟩⟩
  have HN := Aside0.mk (crc_ne hG h)
  have HG := Aside0.mk hG
  rw [hop] at hy ⊢
  dsimp only at hy ⊢
  have hy' : (r2 == 0) = false := beq_eq_false_iff_ne.2 hy
  clear h hf ht hG hop
  go_enter_defers Tryd.func19, Tryd.ntmps19
  go_wp2_with (first | (go_at_call 71; refine H1.out.mono ?_; rintro e w1 ⟨rfl, rfl⟩) | (go_at_call 74; refine H2.out.mono ?_; rintro e w2 ⟨rfl, hr2, hg2⟩) | (go_at_call_of 73 (Value.bool true); refine (wire_unless _ _ _).mono ?_; rintro e w0 ⟨rfl, rfl⟩) | (go_at_call_of 73 (Value.bool false); refine (wire_unless_not _ _ _).mono ?_; rintro e w0 ⟨rfl, rfl⟩) | (go_at_call 75; refine (H3.out _ hr2).mono ?_; rintro e w3 ⟨rfl, hr3, hg3⟩; obtain ⟨d0, d1, d2, d3, d4, g1, g3, g4⟩ := rd_cells hr3) | (go_at_call 77; refine (HS.out _ hr3).mono ?_; rintro e w4 ⟨⟨A', rfl, hC4⟩, hr4, hg4⟩) | (go_at_call 76; refine (HO.out A' w4 hC4 (crc_grown HG.out ((hg2.trans hg3).trans hg4) HN.out)).mono ?_; rintro e w5 ⟨v5, rfl, hB5⟩; have hr5 := rd_below hr4 hB5; obtain ⟨d0, d1, d2, d3, d4, g1, g3, g4⟩ := rd_cells hr5))
  refine leaves_cons (f := 72) (args := #[.pointer (some ⟨b, 0, none⟩)]) (by simp) (by simp [go_sem]) ?_
  refine (wire_catch b A c l m _ _ _ r2 (n : Nat) [] _ hr5).mono ?_
  rintro e u' w'' ⟨rfl, rfl, k, rfl⟩
  simp [Leaves, settle, results, Tryd.results19, go_sem]
  exact ⟨rd_fell hr5 HA.out r2 n k, (((hg2.trans hg3).trans hg4).trans (grown_of_below hB5 _)).trans (fell_grown _ b r2 (n : Nat) k)⟩

set_option maxHeartbeats 1000000 in
set_option maxRecDepth 20000 in
theorem wire_Section_some (b : Nat) (A : Option Addr) (c : Nat) (l : List Int) (m ix : Nat) (fa : Int) (w : World) (h : RdW w b A c l m ix 0 fa) (hf : RdF b A c l m) (id : Int) (hG : CrcTab w) (hi : ix < m) (hid0 : l.getD ix 0 = id) (v : Int) (n : Nat) (ht : lebTake (l.take m) ((ix + 1 : Nat) : Int) = (v, (n : Int), 0)) (j : Nat) (hv : v = (j : Int)) (h1 : j ≤ 65536) (hn : n + (j + 4) ≤ m) (hy : (openL (cutN l n (j + 4))).2 = 0) :
    Calls Tryd.prog 19 #[.pointer (some ⟨b, 0, none⟩), .int .u8 id] w fun x w' => (∃ B, x = .returned (.pointer (some ⟨B, 0, none⟩)) ∧ w.heap.size ≤ B ∧ RdW w' B A c l (n + j) n 0 0 ∧ RdF B A c l (n + j)) ∧ RdW w' b A c l m (n + (j + 4)) 0 fa ∧ w.grownBy w' (some b) := by
  have H1 := Aside0.mk (wire_ready b A c l m ix 0 fa w h)
  obtain ⟨c0, c1, c2, c3, c4, f1, f3, f4⟩ := rd_cells h
  have HA := Aside0.mk hf.far
  have H2 := wire_one_some b A c l m ix 0 fa w h hf hi
  obtain ⟨z, hz⟩ : ∃ z, z = l.getD ix 0 := ⟨_, rfl⟩
  rw [← hz] at H2 hid0
  have H2 := Aside0.mk H2
  clear hz
  have hid : (z == id) = true := by rw [hid0]; exact beq_self_eq_true _
  subst hv
  have H3 := Aside0.mk (fun W hr => wire_num_some b A c l m (ix + 1) 0 fa W hr hf (j : Int) n ht 65536 (by omega) (by omega) (by omega))
  have hsum : IntKind.i64.wrap ((j : Int) + 4) = ((j + 4 : Nat) : Int) := IntWalk.i64_in _ ⟨by omega, by omega⟩
  have hsum2 : wrap64 ((j : Int) + 4) = ((j + 4 : Nat) : Int) := w64 (by omega) (by omega)
  have HS := Aside0.mk (fun W hr => wire_some_some b A c l m n 0 fa W hr hf (j + 4) hn)
  have hm := hf.to_
  have hl := hf.len
  have hlen := cutN_len (l := l) (ix := n) (n := j + 4) (by omega)
  have hby : (cutN l n (j + 4)).all byteB = true := List.all_eq_true.2 (fun x hx => List.all_eq_true.1 hf.byt x (List.mem_of_mem_take (List.mem_of_mem_drop hx)))
  obtain ⟨r1, r2, hop⟩ : ∃ r1 r2, openL (cutN l n (j + 4)) = (r1, r2) := ⟨_, _, rfl⟩
  have HO : Aside0 (∀ A' W, Kd.C (Kd.int .u8) W A' (j + 4) (cutN l n (j + 4)) → CrcTab W → Calls Tryd.prog 76 #[.slice A' ((j + 4 : Nat)) (j + 4)] W fun e w' => ∃ v0_ : Value, e = .returned (.tuple #[v0_, .int .i64 r2]) ∧ Below W.heap.size W w') := ⟨fun A' W hC hG => by
    have := crc_Open.calls A' (j + 4) (cutN l n (j + 4)) r1 r2 W (by rw [hlen]; exact hC) (by omega) hG (by unfold crc_Open.f; rw [if_pos ⟨hby, by omega⟩, hop])
    rw [hlen] at this
    exact this.mono fun e w' ⟨v0, h1, _, h3⟩ => ⟨v0, h1, h3⟩⟩
  have HN := Aside0.mk (crc_ne hG h)
  have HG := Aside0.mk hG
  rw [hop] at hy
  dsimp only at hy
  subst hy
  have hnj : IntKind.i64.wrap ((n : Int) + j) = ((n + j : Nat) : Int) := IntWalk.i64_in _ ⟨by omega, by omega⟩
  have hnj2 : wrap64 ((n : Int) + j) = ((n + j : Nat) : Int) := w64 (by omega) (by omega)
  have HF := Aside0.mk hf
  have HC0 := Aside0.mk (C_far h.2 (by omega))
  clear h hf ht hG hop
  go_enter_defers Tryd.func19, Tryd.ntmps19
  go_wp2_with (first | (go_at_call 71; refine H1.out.mono ?_; rintro e w1 ⟨rfl, rfl⟩) | (go_at_call 74; refine H2.out.mono ?_; rintro e w2 ⟨rfl, hr2, hg2⟩) | (go_at_call 73; refine (wire_unless _ _ _).mono ?_; rintro e w0 ⟨rfl, rfl⟩) | (go_at_call 75; refine (H3.out _ hr2).mono ?_; rintro e w3 ⟨rfl, hr3, hg3⟩; obtain ⟨d0, d1, d2, d3, d4, g1, g3, g4⟩ := rd_cells hr3) | (go_at_call 77; refine (HS.out _ hr3).mono ?_; rintro e w4 ⟨⟨A', rfl, hC4⟩, hr4, hg4⟩) | (go_at_call 76; refine (HO.out A' w4 hC4 (crc_grown HG.out ((hg2.trans hg3).trans hg4) HN.out)).mono ?_; rintro e w5 ⟨v5, rfl, hB5⟩; have hr5 := rd_below hr4 hB5; obtain ⟨d0, d1, d2, d3, d4, g1, g3, g4⟩ := rd_cells hr5))
  refine leaves_cons (f := 72) (args := #[.pointer (some ⟨b, 0, none⟩)]) (by simp) (by simp [go_sem]) ?_
  refine (wire_catch_idle ⟨b, 0, none⟩ _).mono ?_
  rintro e u' w'' ⟨rfl, rfl, rfl⟩
  simp [Leaves, settle, results, Tryd.results19, go_sem]
  clear hsum hsum2 hnj hnj2
  have hB := below_alloc (Below.refl w0.heap.size w0) (.cells #[.slice A l.length c, .int .i64 (n : Int), .int .i64 ((n : Int) + j), .int .i64 0, .int .i64 0] 88)
  have hg := ((hg2.trans hg3).trans hg4).trans (grown_of_below hB5 (some b))
  refine ⟨⟨hg.size, ⟨World.alloc_heap_new _ _, Kd.C_below hr5.2 hB⟩, ⟨HF.out.cap, HF.out.byt, HF.out.len, by omega, fun ad e => ?_⟩⟩, rd_below hr5 hB, hg.trans (grown_of_below hB _)⟩
  have h1 := HC0.out ad e
  have h2 := hg.size
  omega
end Go.Proofs.YtmlbfepibfobaaaDoor.Hand
end

section
-- Written by this session's program layer.py (the kit's print, turned), not by hand.
namespace Go.Proofs.YtmlbfepibfobaaaDoor.Q3
open Go.RowKit Go.Proofs.YtmlbfepibfobaaaDoorW.PrintWords Go.Proofs.YtmlbfepibfobaaaDoorW.PrintLast Go.Proofs.YtmlbfepibfobaaaDoorW.PrintMore Go.Proofs.YtmlbfepibfobaaaDoor.Hand
attribute [local go_sem] max2_int min2_int max_two min_two max_three min_three max_four min_four   -- for this text's walks alone
set_option linter.unusedVariables false
set_option linter.unusedSimpArgs false



def errW : Option Int → Value
  | none => .nilIface
  | some c => .iface 0 (.int .i64 c)
theorem errW_none : errW none = .nilIface := rfl
theorem errW_some (c : Int) : errW (some c) = .iface 0 (.int .i64 c) := rfl

theorem info5 : (Tryd.prog.info? 5).map (fun i => (i.zero, i.size, i.bytes)) = some (some (.int .u8 0), 1, 1) := by kernel_rfl
-- the values' own types

end Go.Proofs.YtmlbfepibfobaaaDoor.Q3
end

section
-- Written by this session's program layer.py (the kit's print, turned), not by hand.
namespace Go.Proofs.YtmlbfepibfobaaaDoor.Q3
open Go.RowKit Go.Proofs.YtmlbfepibfobaaaDoorW.PrintWords Go.Proofs.YtmlbfepibfobaaaDoorW.PrintLast Go.Proofs.YtmlbfepibfobaaaDoorW.PrintMore Go.Proofs.YtmlbfepibfobaaaDoor.Hand
attribute [local go_sem] max2_int min2_int max_two min_two max_three min_three max_four min_four   -- for this text's walks alone
set_option linter.unusedVariables false
set_option linter.unusedSimpArgs false

-- BY HAND: function 114 (secateurref02_Sum)

/-! ### secateurref02_Seal: function 78 -/
def secateurref02_Seal.l0 : Nat → List Int → Int → Int → Option (List Int)
  | 0, _, _, _ => none
  | k + 1, x3, x4, x5 => if x5 < 4 then (if 0 ≤ (IntKind.u64.wrap (wrap64 (8 * x5))) then (if x3.length < 140737488355328 then (secateurref02_Seal.l0 k (x3 ++ [(shr .u32 x4 (IntKind.u64.wrap (wrap64 (8 * x5)))) % 256]) x4 (wrap64 (x5 + 1))) else (none)) else (none)) else (some x3)
def secateurref02_Seal.f (k : Nat) (l0 : List Int) : Option (List Int) := if ([] : List Int).length + l0.length < 140737488355328 then ((secateurref02_Sum.f l0).bind fun t104 => (secateurref02_Seal.l0 k (([] : List Int) ++ l0) t104 0)) else (none)
theorem secateurref02_Seal.mono_l : ∀ k, (∀ y0 y1 y2, LeO (secateurref02_Seal.l0 k y0 y1 y2) (secateurref02_Seal.l0 (k + 1) y0 y1 y2))
  | 0 => fun _ _ _ r h => by simp [secateurref02_Seal.l0] at h
  | k + 1 => by
    have ih0 := secateurref02_Seal.mono_l k
    · intro y0 y1 y2
      unfold secateurref02_Seal.l0
      repeat' first
      | (with_reducible exact ih0 _ _ _)
      | (with_reducible exact LeO.refl _)
      | (with_reducible exact LeO.none _)
      | (with_reducible refine LeO.ite ?_ ?_)
      | (with_reducible refine LeO.bind ?_ (fun _ => ?_))
      | exact ih0 _ _ _
      | exact LeO.none _
      | refine LeO.ite ?_ ?_
      | refine LeO.bind ?_ (fun _ => ?_)
theorem secateurref02_Seal.mono : ∀ a0 k, LeO (secateurref02_Seal.f k a0) (secateurref02_Seal.f (k + 1) a0) := by
  intro a0 k
  have ih0 := secateurref02_Seal.mono_l k
  unfold secateurref02_Seal.f
  repeat' first
      | (with_reducible exact ih0 _ _ _)
      | (with_reducible exact LeO.refl _)
      | (with_reducible exact LeO.none _)
      | (with_reducible refine LeO.ite ?_ ?_)
      | (with_reducible refine LeO.bind ?_ (fun _ => ?_))
      | exact ih0 _ _ _
      | exact LeO.none _
      | refine LeO.ite ?_ ?_
      | refine LeO.bind ?_ (fun _ => ?_)
set_option maxHeartbeats 8000000 in
set_option maxRecDepth 100000 in
theorem secateurref02_Seal.calls (k : Nat) (A0 : Option Addr) (c0 : Nat) (l0 : List Int) (r : List Int) (w : World) (hr0 : Kd.C (Kd.int .u8) w A0 l0.length l0) (hc0 : l0.length ≤ c0) (h : secateurref02_Seal.f k l0 = some r) :
    Calls Tryd.prog 78 #[.slice A0 l0.length c0] w fun e w' => ∃ v0_ : Value, e = .returned (v0_) ∧ Kd.R (Kd.int .u8) 5 w' w.heap.size (fun _ => True) v0_ r ∧ Below w.heap.size w w' := by
  have HR0 := Aside0.mk hr0
  have HC0 := Aside0.mk hc0
  clear hr0 hc0
  have HB := Aside0.mk (Below.refl w.heap.size w)
  have H : (if ([] : List Int).length + l0.length < 140737488355328 then ((secateurref02_Sum.f l0).bind fun t104 => (secateurref02_Seal.l0 k (([] : List Int) ++ l0) t104 0)) else (none)) = some r := h
  clear h
  by_cases c2 : ([] : List Int).length + l0.length < 140737488355328
  · rw [if_pos c2] at H
    have LMc2 := Aside0.mk c2
    clear c2
    obtain ⟨y101, hy101⟩ : ∃ y_ : List Int, y_ = (([] : List Int) ++ l0) := ⟨_, rfl⟩
    replace H : ((secateurref02_Sum.f l0).bind fun t104 => (secateurref02_Seal.l0 k y101 t104 0)) = some r := by first | (rw [hy101]; with_reducible exact H) | (have H2_ := (Option.bind_some _ _).symm.trans H; rw [hy101]; with_reducible exact H2_) | (have H2_ := (Option.bind_some _ _).symm.trans H; with_reducible exact H2_) | with_reducible exact H | (rw [hy101]; exact H) | exact H
    have Ny101 := Aside0.mk hy101
    clear hy101
    replace H := Option.bind_eq_some_iff.mp H
    obtain ⟨t104, A30, H⟩ := H
    replace H : (secateurref02_Seal.l0 k y101 t104 0) = some r := H
    have A3 := Aside0.mk A30
    clear A30
    have H' := Aside0.mk H
    clear H
    go_enter Tryd.func78, Tryd.ntmps78
    go_wp2_with (first | ((with_reducible refine gate_builtin (b := .append) (xs := #[.tmp 6, .tmp 7]) rfl ?_); at_builtin; refine Kd.R_append_rows (Kd.int .u8) (w0 := w) w.heap.size rfl (.tmp 6) (.tmp 7) 22 5 (.int .u8 0) 1 rfl Tryd.underlying22 info5 rfl (by decide) (by omega) (.slice none 0 0) ([] : List Int) l0 _ _ _ (fun _ => True) (fun _ => False) rfl rfl ?aO ?aR (fun _ _ h => h) (fun _ h => h.elim) ?aF ?aB ?aS ?aL ?_; (case aR => repeat (first | exact HR0.out | (with_reducible refine Kd.C_alloc ?_ _) | (with_reducible refine Kd.C_drewN ?_ _) | (with_reducible refine Kd.C_drew ?_))); (case aB => exact (by repeat (first | (with_reducible first | exact HB.out | apply below_alloc | apply pw_below_drewN | apply below_drew1) | exact HB.out))); (case aF => exact (fun _ _ => trivial)); (case aO => exact ((Kd.R_nil _ _ _ _ (fun _ => True)))); (case aS => exact (below_size (by repeat (first | (with_reducible first | exact HB.out | apply below_alloc | apply pw_below_drewN | apply below_drew1) | exact HB.out)))); (case aL => have := LMc2.out; omega); intro v102 w4 ho hb hg hat; rw [← Ny101.out] at ho; have n0_ := Aside0.mk (hb); have n1_ := Aside0.mk (ho); clear HB; have HB := n0_; have HO103 := n1_; clear n0_ n1_; clear ho hb hg hat) | ((with_reducible refine gate_callee (f := 114) rfl ?_); refine goesL_ (some 10) rfl rfl Tryd.func114 (by kernel_rfl) rfl #[.slice A0 l0.length c0] rfl (by (try simp only [List.map_toArray, List.map_cons, List.map_nil]); first | done | rfl | (simp only [List.length_drop, List.length_take]; rfl)) ?_; (with_reducible refine (secateurref02_Sum.calls _ _ l0 t104 _ ?side1 ?side2 A3.out).mono ?_); (case side1 => repeat (first | exact (Kd.C_below HR0.out HB.out) | (with_reducible refine Kd.C_alloc ?_ _) | (with_reducible refine Kd.C_drewN ?_ _) | (with_reducible refine Kd.C_drew ?_))); (case side2 => exact HC0.out); rintro e w' ⟨rfl, ⟨nd, rfl⟩⟩; refine ⟨_, rfl, ?_⟩))
    go_loopg [3, 5] k (fun kq v3 v5 w' => ∃ (x3_1 : List Int) (x5_1 : Int), v5 = .int .i64 x5_1 ∧ Aside0 (secateurref02_Seal.l0 kq x3_1 t104 x5_1 = some r) ∧ Aside0 (kq ≤ k) ∧ Aside0 (Kd.R (Kd.int .u8) 5 w' w.heap.size (fun _ => True) v3 x3_1) ∧ Aside0 (Below w.heap.size w w'))
    case atStart => exact ⟨(y101), (0), (by first | rfl | (simp; done) | (simp [*]; done)), H', ⟨Nat.le_refl _⟩, ⟨by (with_reducible repeat (first | apply Kd.R_alloc | apply Kd.R_drewN | apply Kd.R_drew)); exact HO103.out⟩, ⟨by repeat (first | (with_reducible first | exact HB.out | apply below_alloc | apply pw_below_drewN | apply below_drew1) | exact HB.out)⟩⟩
    case round =>
      clear H'
      try clear c1
      try clear c2
      try clear p2
      obtain ⟨x3_1, x5_1, rfl, HA, HK1, HO_3, HB⟩ := hrel
      cases gk with
      | zero => exact absurd HA.out (by simp [secateurref02_Seal.l0])
      | succ k1 =>
        have H := HA.out
        clear HA
        simp only [secateurref02_Seal.l0] at H
        by_cases c5 : x5_1 < 4
        · rw [if_pos c5] at H
          have c5b0 : decide (x5_1 < 4) = true := decide_eq_true c5
          clear c5
          obtain ⟨ji6, hji6⟩ : ∃ j_ : Int, (IntKind.u64.wrap (wrap64 (8 * x5_1))) = j_ := ⟨_, rfl⟩
          replace H : (if 0 ≤ (ji6) then (if x3_1.length < 140737488355328 then (secateurref02_Seal.l0 k1 (x3_1 ++ [(shr .u32 t104 (ji6)) % 256]) t104 (wrap64 (x5_1 + 1))) else (none)) else (none)) = some r := by first | (rw [hji6] at H; exact H) | (simp only [hji6] at H ⊢; exact H)
          by_cases c7 : 0 ≤ (ji6)
          · rw [if_pos c7] at H
            have c7b0 := eq_true c7
            have c7b1 : decide (0 ≤ (ji6)) = true := decide_eq_true c7
            clear c7
            obtain ⟨ji8, hji8⟩ : ∃ j_ : Int, (shr .u32 t104 (ji6)) = j_ := ⟨_, rfl⟩
            replace H : (if x3_1.length < 140737488355328 then (secateurref02_Seal.l0 k1 (x3_1 ++ [(ji8) % 256]) t104 (wrap64 (x5_1 + 1))) else (none)) = some r := by first | (rw [hji8] at H; exact H) | (simp only [hji8] at H ⊢; exact H)
            have hji8_ : (t104 / 2 ^ min (ji6).toNat 32) = ji8 := hji8
            have hji8z : (ji6) ≤ 32 → (t104 / 2 ^ (ji6).toNat) = ji8 := shr_small hji8
            by_cases c9 : x3_1.length < 140737488355328
            · rw [if_pos c9] at H
              have LMc9 := Aside0.mk c9
              clear c9
              obtain ⟨y105, hy105⟩ : ∃ y_ : List Int, y_ = (x3_1 ++ [(ji8) % 256]) := ⟨_, rfl⟩
              replace H : (secateurref02_Seal.l0 k1 y105 t104 (wrap64 (x5_1 + 1))) = some r := by first | (rw [hy105]; with_reducible exact H) | (have H2_ := (Option.bind_some _ _).symm.trans H; rw [hy105]; with_reducible exact H2_) | (have H2_ := (Option.bind_some _ _).symm.trans H; with_reducible exact H2_) | with_reducible exact H | (rw [hy105]; exact H) | exact H
              have Ny105 := Aside0.mk hy105
              clear hy105
              have H' := Aside0.mk H
              clear H
              go_wp2_with (first | ((with_reducible refine gate_builtin (b := .append) (xs := #[.tmp 15, .tmp 22]) rfl ?_); at_builtin; refine Kd.R_append (Kd.int .u8) (w0 := w) w.heap.size rfl (.tmp 15) (.tmp 22) 22 5 (.int .u8 0) 1 rfl Tryd.underlying22 info5 rfl (by decide) (by omega) u3 x3_1 ((ji8) % 256) [.int .u8 ((ji8) % 256)] (fun _ => True) (fun _ => False) rfl rfl ?aP (fun _ hk => hk.elim) ?aF ?aO ?aB ?aS ?aL ?_; (case aP => exact rfl); (case aB => exact (by repeat (first | (with_reducible first | exact HB.out | apply below_alloc | apply pw_below_drewN | apply below_drew1) | exact HB.out))); (case aF => exact (fun _ _ => trivial)); (case aO => exact (by (with_reducible repeat (first | apply Kd.R_alloc | apply Kd.R_drewN | apply Kd.R_drew)); exact HO_3.out)); (case aS => exact (below_size (by repeat (first | (with_reducible first | exact HB.out | apply below_alloc | apply pw_below_drewN | apply below_drew1) | exact HB.out)))); (case aL => have := LMc9.out; omega); intro v106 w10 ho hb hg hat; rw [← Ny105.out] at ho; have n0_ := Aside0.mk (hb); have n1_ := Aside0.mk (ho); clear HB; clear HO_3; have HB := n0_; have HO107 := n1_; clear n0_ n1_; clear ho hb hg hat))
              go_roundg k1
              case measure => have := HK1.out; omega
              case rel => exact ⟨(y105), (wrap64 (x5_1 + 1)), (by first | rfl | (simp; done) | (simp [*]; done)), H', ⟨by have := HK1.out; omega⟩, ⟨by (with_reducible repeat (first | apply Kd.R_alloc | apply Kd.R_drewN | apply Kd.R_drew)); exact HO107.out⟩, ⟨by repeat (first | (with_reducible first | exact HB.out | apply below_alloc | apply pw_below_drewN | apply below_drew1) | exact HB.out)⟩⟩
            · rw [if_neg c9] at H
              exact absurd H (by simp)
          · rw [if_neg c7] at H
            exact absurd H (by simp)
        · rw [if_neg c5] at H
          have c5b0 : decide (x5_1 < 4) = false := decide_eq_false c5
          clear c5
          obtain rfl := Option.some.inj H
          go_wp2
          go_ret
          exact ⟨_, by first | rfl | (simp [errW_none, errW_some] <;> rfl) | (simp [*, errW_none, errW_some] <;> rfl), by (with_reducible repeat (first | apply Kd.R_alloc | apply Kd.R_drewN | apply Kd.R_drew)); exact HO_3.out, by repeat (first | (with_reducible first | exact HB.out | apply below_alloc | apply pw_below_drewN | apply below_drew1) | exact HB.out)⟩
  · rw [if_neg c2] at H
    exact absurd H (by simp)

/-! ### secateurref02_Open: function 120 -/
def secateurref02_Open.l0 : Nat → List Int → Int → Int → Int → Option (List Int × Int)
  | 0, _, _, _, _ => none
  | k + 1, x0, x4, x5, x6 => if x6 < 4 then (if 0 ≤ (wrap64 (x4 + x6)) then (if (wrap64 (x4 + x6)) < (x0.length : Int) then (if 0 ≤ (IntKind.u64.wrap (wrap64 (8 * x6))) then (if (rd x0 (wrap64 (x4 + x6))) = ((shr .u32 x5 (IntKind.u64.wrap (wrap64 (8 * x6)))) % 256) then (secateurref02_Open.l0 k x0 x4 x5 (wrap64 (x6 + 1))) else (some (([] : List Int), 4))) else (none)) else (none)) else (none)) else (if 0 ≤ x4 then (if x4 ≤ (x0.length : Int) then (if ([] : List Int).length + (x0.take (x4 : Int).toNat).length < 140737488355328 then (some ((([] : List Int) ++ (x0.take (x4 : Int).toNat)), 0)) else (none)) else (none)) else (none))
def secateurref02_Open.f (k : Nat) (l0 : List Int) : Option (List Int × Int) := if (wrap64 ((l0.length : Int) - 4)) < 0 then (some (([] : List Int), 2)) else (if 0 ≤ (wrap64 ((l0.length : Int) - 4)) then (if (wrap64 ((l0.length : Int) - 4)) ≤ (l0.length : Int) then ((secateurref02_Sum.f (l0.take ((wrap64 ((l0.length : Int) - 4)) : Int).toNat)).bind fun t109 => (secateurref02_Open.l0 k l0 (wrap64 ((l0.length : Int) - 4)) t109 0)) else (none)) else (none))
theorem secateurref02_Open.mono_l : ∀ k, (∀ y0 y1 y2 y3, LeO (secateurref02_Open.l0 k y0 y1 y2 y3) (secateurref02_Open.l0 (k + 1) y0 y1 y2 y3))
  | 0 => fun _ _ _ _ r h => by simp [secateurref02_Open.l0] at h
  | k + 1 => by
    have ih0 := secateurref02_Open.mono_l k
    · intro y0 y1 y2 y3
      unfold secateurref02_Open.l0
      repeat' first
      | (with_reducible exact ih0 _ _ _ _)
      | (with_reducible exact LeO.refl _)
      | (with_reducible exact LeO.none _)
      | (with_reducible refine LeO.ite ?_ ?_)
      | (with_reducible refine LeO.bind ?_ (fun _ => ?_))
      | exact ih0 _ _ _ _
      | exact LeO.none _
      | refine LeO.ite ?_ ?_
      | refine LeO.bind ?_ (fun _ => ?_)
theorem secateurref02_Open.mono : ∀ a0 k, LeO (secateurref02_Open.f k a0) (secateurref02_Open.f (k + 1) a0) := by
  intro a0 k
  have ih0 := secateurref02_Open.mono_l k
  unfold secateurref02_Open.f
  repeat' first
      | (with_reducible exact ih0 _ _ _ _)
      | (with_reducible exact LeO.refl _)
      | (with_reducible exact LeO.none _)
      | (with_reducible refine LeO.ite ?_ ?_)
      | (with_reducible refine LeO.bind ?_ (fun _ => ?_))
      | exact ih0 _ _ _ _
      | exact LeO.none _
      | refine LeO.ite ?_ ?_
      | refine LeO.bind ?_ (fun _ => ?_)
set_option maxHeartbeats 8000000 in
set_option maxRecDepth 100000 in
theorem secateurref02_Open.calls (k : Nat) (A0 : Option Addr) (c0 : Nat) (l0 : List Int) (r1 : List Int) (r2 : Int) (w : World) (hr0 : Kd.C (Kd.int .u8) w A0 l0.length l0) (hc0 : l0.length ≤ c0) (h : secateurref02_Open.f k l0 = some (r1, r2)) :
    Calls Tryd.prog 120 #[.slice A0 l0.length c0] w fun e w' => ∃ v0_ : Value, e = .returned (.tuple #[v0_, .int .i64 r2]) ∧ Kd.R (Kd.int .u8) 5 w' w.heap.size (fun _ => True) v0_ r1 ∧ Below w.heap.size w w' := by
  have HR0 := Aside0.mk hr0
  have HC0 := Aside0.mk hc0
  clear hr0 hc0
  have HB := Aside0.mk (Below.refl w.heap.size w)
  have H : (if (wrap64 ((l0.length : Int) - 4)) < 0 then (some (([] : List Int), 2)) else (if 0 ≤ (wrap64 ((l0.length : Int) - 4)) then (if (wrap64 ((l0.length : Int) - 4)) ≤ (l0.length : Int) then ((secateurref02_Sum.f (l0.take ((wrap64 ((l0.length : Int) - 4)) : Int).toNat)).bind fun t109 => (secateurref02_Open.l0 k l0 (wrap64 ((l0.length : Int) - 4)) t109 0)) else (none)) else (none))) = some (r1, r2) := h
  clear h
  by_cases c2 : (wrap64 ((l0.length : Int) - 4)) < 0
  · rw [if_pos c2] at H
    have c2b0 : decide ((wrap64 ((l0.length : Int) - 4)) < 0) = true := decide_eq_true c2
    clear c2
    simp only [Option.some.injEq, Prod.mk.injEq] at H
    obtain ⟨rfl, rfl⟩ := H
    go_enter Tryd.func120, Tryd.ntmps120
    go_wp2
    go_ret2
    exact ⟨_, by first | rfl | (simp [errW_none, errW_some] <;> rfl) | (simp [*, errW_none, errW_some] <;> rfl), by first | exact Kd.R_nil _ _ _ _ _ | exact Kd.N_nil _ _ _ _ _ | exact Kd.V_nil _ _ _ _ _ | exact Kd.Q_nil _ _ _ _ _ | exact Kd.S_nil _ _ _ _ _, by repeat (first | (with_reducible first | exact HB.out | apply below_alloc | apply pw_below_drewN | apply below_drew1) | exact HB.out)⟩
  · rw [if_neg c2] at H
    have c2b0 : decide ((wrap64 ((l0.length : Int) - 4)) < 0) = false := decide_eq_false c2
    clear c2
    obtain ⟨ji3, hji3⟩ : ∃ j_ : Int, (wrap64 ((l0.length : Int) - 4)) = j_ := ⟨_, rfl⟩
    replace H : (if 0 ≤ (ji3) then (if (ji3) ≤ (l0.length : Int) then ((secateurref02_Sum.f (l0.take ((ji3) : Int).toNat)).bind fun t109 => (secateurref02_Open.l0 k l0 ji3 t109 0)) else (none)) else (none)) = some (r1, r2) := by first | (rw [hji3] at H; exact H) | (simp only [hji3] at H ⊢; exact H)
    (try rw [hji3] at c2b0)
    have hji3w : (IntKind.i64.wrap ((l0.length : Int) - 4)) = ji3 := (i64_w _).trans hji3
    by_cases c4 : 0 ≤ (ji3)
    · rw [if_pos c4] at H
      have c4b0 := eq_true c4
      have c4b1 : decide (0 ≤ (ji3)) = true := decide_eq_true c4
      clear c4
      by_cases c5 : (ji3) ≤ (l0.length : Int)
      · rw [if_pos c5] at H
        have c5b0 := eq_true c5
        have c5b1 : decide ((ji3) ≤ (l0.length : Int)) = true := decide_eq_true c5
        (try have c5c0 : (((ji3)) ≤ (c0 : Int)) = True := eq_true (by have h_ := HC0.out; omega))
        clear c5
        replace H := Option.bind_eq_some_iff.mp H
        obtain ⟨t109, A60, H⟩ := H
        replace H : (secateurref02_Open.l0 k l0 ji3 t109 0) = some (r1, r2) := H
        have A6 := Aside0.mk A60
        clear A60
        have H' := Aside0.mk H
        clear H
        obtain ⟨i07, hi07, _, hsz7, _⟩ := info_parts info5
        obtain ⟨hcut7, hA7, hC7⟩ := print_take_of (P := Tryd.prog) (Value.int .u8) 0 22 5 .i64 Tryd.underlying22 hi07 hsz7 A0 c0 l0 (ji3) (of_decide_eq_true (by first | (with_reducible assumption) | assumption)) (of_decide_eq_true (by first | (with_reducible assumption) | assumption)) HC0.out
        have HR108 := Aside0.mk (Kd.C_of_reads (h1 := fun _ => rfl) (hA7 _ (Kd.reads_of_C HR0.out)))
        have HC108 := Aside0.mk hC7
        clear hA7 hC7 hi07 hsz7
        go_enter Tryd.func120, Tryd.ntmps120
        go_wp2_with (first | ((with_reducible refine gate_callee (f := 114) rfl ?_); refine goesL_ (some 16) rfl rfl Tryd.func114 (by kernel_rfl) rfl #[.slice A0 (l0.take ((ji3) : Int).toNat).length c0] rfl (by (try simp only [List.map_toArray, List.map_cons, List.map_nil]); first | done | (rw [show (l0.take ((ji3) : Int).toNat).length = (ji3).toNat from (by rw [List.length_take]; have h_ : ((ji3) : Int) ≤ (l0.length : Int) := of_decide_eq_true (by first | (with_reducible assumption) | assumption); omega)] <;> rfl) | (simp only [hji3]; rfl) | rfl | (simp only [List.length_drop, List.length_take]; rfl)) ?_; (with_reducible refine (secateurref02_Sum.calls _ _ (l0.take ((ji3) : Int).toNat) t109 _ ?side1 ?side2 A6.out).mono ?_); (case side1 => repeat (first | exact HR108.out | (with_reducible refine Kd.C_alloc ?_ _) | (with_reducible refine Kd.C_drewN ?_ _) | (with_reducible refine Kd.C_drew ?_))); (case side2 => exact HC108.out); rintro e w' ⟨rfl, ⟨nd, rfl⟩⟩; refine ⟨_, rfl, ?_⟩))
        go_loopg [6] k (fun kq v6 w' => ∃ (x6_1 : Int), v6 = .int .i64 x6_1 ∧ Aside0 (secateurref02_Open.l0 kq l0 ji3 t109 x6_1 = some (r1, r2)) ∧ Aside0 (kq ≤ k) ∧ Aside0 (Below w.heap.size w w'))
        case atStart => exact ⟨(0), (by first | rfl | (simp; done) | (simp [*]; done)), H', ⟨Nat.le_refl _⟩, ⟨by repeat (first | (with_reducible first | exact HB.out | apply below_alloc | apply pw_below_drewN | apply below_drew1) | exact HB.out)⟩⟩
        case round =>
          clear H'
          try clear c1
          try clear c2
          try clear c2b0
          try clear p2
          try clear c4
          try clear c4b0
          try clear c4b1
          try clear c5
          try clear c5b0
          try clear c5b1
          try clear p6
          obtain ⟨x6_1, rfl, HA, HK1, HB⟩ := hrel
          cases gk with
          | zero => exact absurd HA.out (by simp [secateurref02_Open.l0])
          | succ k1 =>
            have H := HA.out
            clear HA
            simp only [secateurref02_Open.l0] at H
            by_cases c8 : x6_1 < 4
            · rw [if_pos c8] at H
              have c8b0 : decide (x6_1 < 4) = true := decide_eq_true c8
              clear c8
              obtain ⟨ji9, hji9⟩ : ∃ j_ : Int, (wrap64 (ji3 + x6_1)) = j_ := ⟨_, rfl⟩
              replace H : (if 0 ≤ (ji9) then (if (ji9) < (l0.length : Int) then (if 0 ≤ (IntKind.u64.wrap (wrap64 (8 * x6_1))) then (if (rd l0 (ji9)) = ((shr .u32 t109 (IntKind.u64.wrap (wrap64 (8 * x6_1)))) % 256) then (secateurref02_Open.l0 k1 l0 ji3 t109 (wrap64 (x6_1 + 1))) else (some (([] : List Int), 4))) else (none)) else (none)) else (none)) = some (r1, r2) := by first | (rw [hji9] at H; exact H) | (simp only [hji9] at H ⊢; exact H)
              have hji9w : (IntKind.i64.wrap (ji3 + x6_1)) = ji9 := (i64_w _).trans hji9
              by_cases c10 : 0 ≤ (ji9)
              · rw [if_pos c10] at H
                have c10b0 : decide (0 ≤ (ji9)) = true := decide_eq_true c10
                clear c10
                by_cases c11 : (ji9) < (l0.length : Int)
                · rw [if_pos c11] at H
                  have c11b0 : decide ((ji9) < (l0.length : Int)) = true := decide_eq_true c11
                  clear c11
                  obtain ⟨ji12, hji12⟩ : ∃ j_ : Int, (IntKind.u64.wrap (wrap64 (8 * x6_1))) = j_ := ⟨_, rfl⟩
                  replace H : (if 0 ≤ (ji12) then (if (rd l0 (ji9)) = ((shr .u32 t109 (ji12)) % 256) then (secateurref02_Open.l0 k1 l0 ji3 t109 (wrap64 (x6_1 + 1))) else (some (([] : List Int), 4))) else (none)) = some (r1, r2) := by first | (rw [hji12] at H; exact H) | (simp only [hji12] at H ⊢; exact H)
                  by_cases c13 : 0 ≤ (ji12)
                  · rw [if_pos c13] at H
                    have c13b0 := eq_true c13
                    have c13b1 : decide (0 ≤ (ji12)) = true := decide_eq_true c13
                    clear c13
                    obtain ⟨ji14, hji14⟩ : ∃ j_ : Int, (shr .u32 t109 (ji12)) = j_ := ⟨_, rfl⟩
                    replace H : (if (rd l0 (ji9)) = ((ji14) % 256) then (secateurref02_Open.l0 k1 l0 ji3 t109 (wrap64 (x6_1 + 1))) else (some (([] : List Int), 4))) = some (r1, r2) := by first | (rw [hji14] at H; exact H) | (simp only [hji14] at H ⊢; exact H)
                    have hji14_ : (t109 / 2 ^ min (ji12).toNat 32) = ji14 := hji14
                    have hji14z : (ji12) ≤ 32 → (t109 / 2 ^ (ji12).toNat) = ji14 := shr_small hji14
                    by_cases c15 : (rd l0 (ji9)) = ((ji14) % 256)
                    · rw [if_pos c15] at H
                      have c15b0 : ((rd l0 (ji9)) == ((ji14) % 256)) = true := beq_iff_eq.mpr c15
                      have c15b1 : ((rd l0 (ji9)) != ((ji14) % 256)) = false := bne_eq_false_iff_eq.mpr c15
                      clear c15
                      have H' := Aside0.mk H
                      clear H
                      have p110 : 0 ≤ ((ji9) : Int) := of_decide_eq_true (by first | (with_reducible assumption) | assumption)
                      have q110 : (ji9) < (l0.length : Int) := of_decide_eq_true (by first | (with_reducible assumption) | assumption)
                      obtain ⟨ad110, e110, hx110_0⟩ := Kd.at_int HR0.out (ji9) p110 q110
                      cases e110
                      replace hx110_0 := (HB.out.cell (World.block_lt_of_cell? w _ hx110_0)).trans hx110_0
                      replace p110 := eq_true p110
                      replace q110 := eq_true q110
                      go_wp2
                      go_roundg k1
                      case measure => have := HK1.out; omega
                      case rel => exact ⟨(wrap64 (x6_1 + 1)), (by first | rfl | (simp; done) | (simp [*]; done)), H', ⟨by have := HK1.out; omega⟩, ⟨by repeat (first | (with_reducible first | exact HB.out | apply below_alloc | apply pw_below_drewN | apply below_drew1) | exact HB.out)⟩⟩
                    · rw [if_neg c15] at H
                      have c15b0 : ((rd l0 (ji9)) == ((ji14) % 256)) = false := beq_eq_false_iff_ne.mpr c15
                      have c15b1 : ((rd l0 (ji9)) != ((ji14) % 256)) = true := bne_iff_ne.mpr c15
                      simp only [Option.some.injEq, Prod.mk.injEq] at H
                      obtain ⟨rfl, rfl⟩ := H
                      have p110 : 0 ≤ ((ji9) : Int) := of_decide_eq_true (by first | (with_reducible assumption) | assumption)
                      have q110 : (ji9) < (l0.length : Int) := of_decide_eq_true (by first | (with_reducible assumption) | assumption)
                      obtain ⟨ad110, e110, hx110_0⟩ := Kd.at_int HR0.out (ji9) p110 q110
                      cases e110
                      replace hx110_0 := (HB.out.cell (World.block_lt_of_cell? w _ hx110_0)).trans hx110_0
                      replace p110 := eq_true p110
                      replace q110 := eq_true q110
                      go_wp2
                      go_ret2
                      exact ⟨_, by first | rfl | (simp [errW_none, errW_some] <;> rfl) | (simp only [← hji3, ← hji9, ← hji12, ← hji14]; first | rfl | (simp [errW_none, errW_some] <;> rfl)) | (simp [*, errW_none, errW_some] <;> rfl), by first | exact Kd.R_nil _ _ _ _ _ | exact Kd.N_nil _ _ _ _ _ | exact Kd.V_nil _ _ _ _ _ | exact Kd.Q_nil _ _ _ _ _ | exact Kd.S_nil _ _ _ _ _, by repeat (first | (with_reducible first | exact HB.out | apply below_alloc | apply pw_below_drewN | apply below_drew1) | exact HB.out)⟩
                  · rw [if_neg c13] at H
                    exact absurd H (by simp)
                · rw [if_neg c11] at H
                  exact absurd H (by simp)
              · rw [if_neg c10] at H
                exact absurd H (by simp)
            · rw [if_neg c8] at H
              have c8b0 : decide (x6_1 < 4) = false := decide_eq_false c8
              clear c8
              by_cases c16 : 0 ≤ ji3
              · rw [if_pos c16] at H
                have c16b0 := eq_true c16
                have c16b1 : decide (0 ≤ ji3) = true := decide_eq_true c16
                clear c16
                by_cases c17 : ji3 ≤ (l0.length : Int)
                · rw [if_pos c17] at H
                  have c17b0 := eq_true c17
                  have c17b1 : decide (ji3 ≤ (l0.length : Int)) = true := decide_eq_true c17
                  (try have c17c0 : ((ji3) ≤ (c0 : Int)) = True := eq_true (by have h_ := HC0.out; omega))
                  clear c17
                  by_cases c18 : ([] : List Int).length + (l0.take (ji3 : Int).toNat).length < 140737488355328
                  · rw [if_pos c18] at H
                    have LMc18 := Aside0.mk c18
                    clear c18
                    obtain ⟨y112, hy112⟩ : ∃ y_ : List Int, y_ = (([] : List Int) ++ (l0.take (ji3 : Int).toNat)) := ⟨_, rfl⟩
                    replace H : (some (y112, 0)) = some (r1, r2) := by first | (rw [hy112]; with_reducible exact H) | (have H2_ := (Option.bind_some _ _).symm.trans H; rw [hy112]; with_reducible exact H2_) | (have H2_ := (Option.bind_some _ _).symm.trans H; with_reducible exact H2_) | with_reducible exact H | (rw [hy112]; exact H) | exact H
                    have Ny112 := Aside0.mk hy112
                    clear hy112
                    simp only [Option.some.injEq, Prod.mk.injEq] at H
                    obtain ⟨rfl, rfl⟩ := H
                    obtain ⟨i019, hi019, _, hsz19, _⟩ := info_parts info5
                    obtain ⟨hcut19, hA19, hC19⟩ := print_take_of (P := Tryd.prog) (Value.int .u8) 0 22 5 .i64 Tryd.underlying22 hi019 hsz19 A0 c0 l0 ji3 (of_decide_eq_true (by first | (with_reducible assumption) | assumption)) (of_decide_eq_true (by first | (with_reducible assumption) | assumption)) HC0.out
                    have HR111 := Aside0.mk (Kd.C_of_reads (h1 := fun _ => rfl) (hA19 _ (Kd.reads_of_C HR0.out)))
                    have HC111 := Aside0.mk hC19
                    clear hA19 hC19 hi019 hsz19
                    go_wp2_with (first | ((with_reducible refine gate_builtin (b := .append) (xs := #[.tmp 34, .tmp 37]) rfl ?_); at_builtin; refine Kd.R_append_rows (Kd.int .u8) (w0 := w) w.heap.size rfl (.tmp 34) (.tmp 37) 22 5 (.int .u8 0) 1 rfl Tryd.underlying22 info5 rfl (by decide) (by omega) (.slice none 0 0) ([] : List Int) (l0.take (ji3 : Int).toNat) _ _ _ (fun _ => True) (fun _ => False) rfl rfl ?aO ?aR (fun _ _ h => h) (fun _ h => h.elim) ?aF ?aB ?aS ?aL ?_; (case aR => first | (refine Eq.subst (motive := fun n_ => Kd.C (Kd.int .u8) _ _ n_ (l0.take (ji3 : Int).toNat)) (show (l0.take (ji3 : Int).toNat).length = ji3.toNat from (by rw [List.length_take]; have h_ : (ji3 : Int) ≤ (l0.length : Int) := of_decide_eq_true (by first | (with_reducible assumption) | assumption); omega)) ?_; repeat (first | exact (Kd.C_below HR111.out HB.out) | (with_reducible refine Kd.C_alloc ?_ _) | (with_reducible refine Kd.C_drewN ?_ _) | (with_reducible refine Kd.C_drew ?_)); done) | (rw [← show (l0.take (ji3 : Int).toNat).length = ji3.toNat from (by rw [List.length_take]; have h_ : (ji3 : Int) ≤ (l0.length : Int) := of_decide_eq_true (by first | (with_reducible assumption) | assumption); omega)]; repeat (first | exact (Kd.C_below HR111.out HB.out) | (with_reducible refine Kd.C_alloc ?_ _) | (with_reducible refine Kd.C_drewN ?_ _) | (with_reducible refine Kd.C_drew ?_))) | (repeat (first | exact (Kd.C_below HR111.out HB.out) | (with_reducible refine Kd.C_alloc ?_ _) | (with_reducible refine Kd.C_drewN ?_ _) | (with_reducible refine Kd.C_drew ?_)))); (case aB => exact (by repeat (first | (with_reducible first | exact HB.out | apply below_alloc | apply pw_below_drewN | apply below_drew1) | exact HB.out))); (case aF => exact (fun _ _ => trivial)); (case aO => exact ((Kd.R_nil _ _ _ _ (fun _ => True)))); (case aS => exact (below_size (by repeat (first | (with_reducible first | exact HB.out | apply below_alloc | apply pw_below_drewN | apply below_drew1) | exact HB.out)))); (case aL => have := LMc18.out; have hlx_ := (show (l0.take (ji3 : Int).toNat).length = ji3.toNat from (by rw [List.length_take]; have h_ : (ji3 : Int) ≤ (l0.length : Int) := of_decide_eq_true (by first | (with_reducible assumption) | assumption); omega)); omega); intro v113 w20 ho hb hg hat; rw [← Ny112.out] at ho; have n0_ := Aside0.mk (hb); have n1_ := Aside0.mk (ho); clear HB; have HB := n0_; have HO114 := n1_; clear n0_ n1_; clear ho hb hg hat))
                    go_ret2
                    exact ⟨_, by first | rfl | (simp [errW_none, errW_some] <;> rfl) | (simp only [← hji3]; first | rfl | (simp [errW_none, errW_some] <;> rfl)) | (simp [*, errW_none, errW_some] <;> rfl), by (with_reducible repeat (first | apply Kd.R_alloc | apply Kd.R_drewN | apply Kd.R_drew)); exact HO114.out, by repeat (first | (with_reducible first | exact HB.out | apply below_alloc | apply pw_below_drewN | apply below_drew1) | exact HB.out)⟩
                  · rw [if_neg c18] at H
                    exact absurd H (by simp)
                · rw [if_neg c17] at H
                  exact absurd H (by simp)
              · rw [if_neg c16] at H
                exact absurd H (by simp)
      · rw [if_neg c5] at H
        exact absurd H (by simp)
    · rw [if_neg c4] at H
      exact absurd H (by simp)

end Go.Proofs.YtmlbfepibfobaaaDoor.Q3
end

section
-- Written by this session's program layer.py (the kit's print, turned), not by hand.
namespace Go.Proofs.YtmlbfepibfobaaaDoor.Q3
open Go.RowKit Go.Proofs.YtmlbfepibfobaaaDoorW.PrintWords Go.Proofs.YtmlbfepibfobaaaDoorW.PrintLast Go.Proofs.YtmlbfepibfobaaaDoorW.PrintMore Go.Proofs.YtmlbfepibfobaaaDoor.Hand
attribute [local go_sem] max2_int min2_int max_two min_two max_three min_three max_four min_four   -- for this text's walks alone
set_option linter.unusedVariables false
set_option linter.unusedSimpArgs false

end Go.Proofs.YtmlbfepibfobaaaDoor.Q3
end

section
namespace Go.Proofs.YtmlbfepibfobaaaDoor.Hand
open Go.RowKit Go.Proofs.YtmlbfepibfobaaaDoorW.PrintWords Go.Proofs.YtmlbfepibfobaaaDoorW.PrintLast Go.Proofs.YtmlbfepibfobaaaDoorW.PrintMore
set_option linter.unusedVariables false
set_option linter.unusedSimpArgs false

def secateurref02_Seal.f (l0 : List Int) : Option (List Int) := crc_Seal.f l0
def secateurref02_Open.f (l0 : List Int) : Option (List Int × Int) := crc_Open.f l0
theorem shr_u32 (s n : Int) (h : n.toNat ≤ 32) : shr .u32 s n = s / 2 ^ n.toNat := by
  show s / 2 ^ min n.toNat 32 = _
  rw [Nat.min_eq_left h]
theorem sealR_step (k : Nat) (x : List Int) (s i : Int) (h0 : 0 ≤ i) (h1 : i < 4) (hx : x.length < 140737488355328) : Q3.secateurref02_Seal.l0 (k + 1) x s i = Q3.secateurref02_Seal.l0 k (x ++ [s / 2 ^ (8 * i).toNat % 256]) s (i + 1) := by
  have e : IntKind.u64.wrap (wrap64 (8 * i)) = 8 * i := by
    rw [w64 (by omega) (by omega)]
    show (8 * i) % 18446744073709551616 = _
    omega
  rw [Q3.secateurref02_Seal.l0, e, if_pos h1, if_pos (by omega), if_pos hx, shr_u32 _ _ (by omega), w64 (by omega) (by omega)]
theorem sealR_eq (l : List Int) (hb : l.all byteB = true) (hl : l.length ≤ 70368744177664) : Q3.secateurref02_Seal.f 5 l = some (sealL l) := by
  unfold Q3.secateurref02_Seal.f
  have hs : secateurref02_Sum.f l = some (crcSum l) := by show crc_Sum.f l = _; unfold crc_Sum.f; rw [if_pos hb]
  rw [if_pos (by simp; omega), hs, Option.bind_some, List.nil_append, sealR_step _ _ _ _ (by omega) (by omega) (by omega), sealR_step _ _ _ _ (by omega) (by omega) (by simp; omega), sealR_step _ _ _ _ (by omega) (by omega) (by simp; omega), sealR_step _ _ _ _ (by omega) (by omega) (by simp; omega), Q3.secateurref02_Seal.l0, if_neg (by omega)]
  have hr := crcSum_range l
  simp [sealL, sumBytes]
  omega
theorem openR_step (k : Nat) (l : List Int) (n : Nat) (s : Int) (i : Nat) (h1 : i < 4) (hn : l.length = n + 4) (hl : l.length ≤ 70368744177664) : Q3.secateurref02_Open.l0 (k + 1) l n s i = if l.getD (n + i) 0 = s / 2 ^ (8 * i) % 256 then Q3.secateurref02_Open.l0 k l n s ((i + 1 : Nat) : Int) else some ([], 4) := by
  have e : IntKind.u64.wrap (wrap64 (8 * (i : Int))) = ((8 * i : Nat) : Int) := by
    rw [w64 (by omega) (by omega)]
    show (8 * (i : Int)) % 18446744073709551616 = _
    omega
  have e2 : wrap64 ((n : Int) + i) = ((n + i : Nat) : Int) := by rw [w64 (by omega) (by omega)]; push_cast; rfl
  rw [Q3.secateurref02_Open.l0, e, e2, if_pos (by omega), if_pos (by omega), if_pos (by omega), if_pos (by omega), shr_u32 _ _ (by omega), w64 (by omega) (by omega), rd_nat]
  rfl
theorem openR_eq (l : List Int) (hb : l.all byteB = true) (hl : l.length ≤ 70368744177664) : Q3.secateurref02_Open.f 5 l = some (openL l) := by
  unfold Q3.secateurref02_Open.f openL
  rw [w64 (by omega) (by omega)]
  by_cases h : l.length < 4
  · rw [if_pos (by omega), if_pos h]
  · obtain ⟨n, hn⟩ : ∃ n, l.length = n + 4 := ⟨l.length - 4, by omega⟩
    have e : (l.length : Int) - 4 = (n : Int) := by omega
    have e2 : l.length - 4 = n := by omega
    rw [if_neg (by omega), if_neg h, if_pos (by omega), if_pos (by omega), e, e2, Int.toNat_natCast]
    have hs : secateurref02_Sum.f (l.take n) = some (crcSum (l.take n)) := by
      show crc_Sum.f _ = _
      unfold crc_Sum.f
      rw [if_pos (List.all_eq_true.2 (fun x hx => List.all_eq_true.1 hb x (List.mem_of_mem_take hx)))]
    rw [hs, Option.bind_some]
    have hr := crcSum_range (l.take n)
    obtain ⟨s, hs⟩ : ∃ s, s = crcSum (l.take n) := ⟨_, rfl⟩
    rw [← hs] at hr ⊢
    have hd : l.drop n = [l.getD n 0, l.getD (n + 1) 0, l.getD (n + 2) 0, l.getD (n + 3) 0] := by
      rw [drop_cons l (i := n) (by omega), drop_cons l (i := n + 1) (by omega), drop_cons l (i := n + 2) (by omega), drop_cons l (i := n + 3) (by omega), List.drop_of_length_le (by omega)]
    rw [hd]
    have st := fun k i h1 => openR_step k l n s i h1 hn hl
    have s0 := st 4 0 (by omega)
    have s1 := st 3 1 (by omega)
    have s2 := st 2 2 (by omega)
    have s3 := st 1 3 (by omega)
    have s4 : Q3.secateurref02_Open.l0 1 l n s ((4 : Nat) : Int) = some (l.take n, 0) := by
      rw [Q3.secateurref02_Open.l0, if_neg (by omega), if_pos (by omega), if_pos (by omega), if_pos (by simp; omega), Int.toNat_natCast, List.nil_append]
    rw [s4] at s3
    rw [s3] at s2
    rw [s2] at s1
    rw [s1] at s0
    refine s0.trans ?_
    clear s0 s1 s2 s3 s4 st hd hs
    simp only [Nat.add_zero, sumBytes, List.cons.injEq, and_true]
    generalize l.getD n 0 = a
    generalize l.getD (n + 1) 0 = b
    generalize l.getD (n + 2) 0 = c
    generalize l.getD (n + 3) 0 = d
    have p0 : s / 2 ^ (8 * 0) % 256 = s % 256 := by show s / 1 % 256 = _; omega
    have p1 : s / 2 ^ (8 * 1) % 256 = s / 256 % 256 := rfl
    have p2 : s / 2 ^ (8 * 2) % 256 = s / 65536 % 256 := rfl
    have p3 : s / 2 ^ (8 * 3) % 256 = s / 16777216 := by show s / 16777216 % 256 = _; omega
    rw [p0, p1, p2, p3]
    by_cases q0 : a = s % 256
    · by_cases q1 : b = s / 256 % 256
      · by_cases q2 : c = s / 65536 % 256
        · by_cases q3 : d = s / 16777216
          · simp [q0, q1, q2, q3]
          · simp [q0, q1, q2, q3]
        · simp [q0, q1, q2]
      · simp [q0, q1]
    · simp [q0]
theorem secateurref02_Seal.calls (A0 : Option Addr) (c0 : Nat) (l0 : List Int) (r : List Int) (w : World) (hr0 : Kd.C (Kd.int .u8) w A0 l0.length l0) (hc0 : l0.length ≤ c0) (h : secateurref02_Seal.f l0 = some r) :
    Calls Tryd.prog 78 #[.slice A0 l0.length c0] w fun e w' => ∃ v0_ : Value, e = .returned (v0_) ∧ Kd.R (Kd.int .u8) 5 w' w.heap.size (fun _ => True) v0_ r ∧ Below w.heap.size w w' := by
  have h : crc_Seal.f l0 = some r := h
  unfold crc_Seal.f at h
  split at h
  · rename_i hg
    exact Q3.secateurref02_Seal.calls 5 A0 c0 l0 r w hr0 hc0 ((sealR_eq l0 hg.1 hg.2).trans h)
  · cases h
theorem secateurref02_Open.calls (A0 : Option Addr) (c0 : Nat) (l0 : List Int) (r1 : List Int) (r2 : Int) (w : World) (hr0 : Kd.C (Kd.int .u8) w A0 l0.length l0) (hc0 : l0.length ≤ c0) (h : secateurref02_Open.f l0 = some (r1, r2)) :
    Calls Tryd.prog 120 #[.slice A0 l0.length c0] w fun e w' => ∃ v0_ : Value, e = .returned (.tuple #[v0_, .int .i64 r2]) ∧ Kd.R (Kd.int .u8) 5 w' w.heap.size (fun _ => True) v0_ r1 ∧ Below w.heap.size w w' := by
  have h : crc_Open.f l0 = some (r1, r2) := h
  unfold crc_Open.f at h
  split at h
  · rename_i hg
    exact Q3.secateurref02_Open.calls 5 A0 c0 l0 r1 r2 w hr0 hc0 ((openR_eq l0 hg.1 hg.2).trans h)
  · cases h
end Go.Proofs.YtmlbfepibfobaaaDoor.Hand
end

section
-- Written by this session's program layer.py (the kit's print, turned), not by hand.
namespace Go.Proofs.YtmlbfepibfobaaaDoor.Q30
open Go.RowKit Go.Proofs.YtmlbfepibfobaaaDoorW.PrintWords Go.Proofs.YtmlbfepibfobaaaDoorW.PrintLast Go.Proofs.YtmlbfepibfobaaaDoorW.PrintMore Go.Proofs.YtmlbfepibfobaaaDoor.Hand
attribute [local go_sem] max2_int min2_int max_two min_two max_three min_three max_four min_four   -- for this text's walks alone
set_option linter.unusedVariables false
set_option linter.unusedSimpArgs false



def errW : Option Int → Value
  | none => .nilIface
  | some c => .iface 0 (.int .i64 c)
theorem errW_none : errW none = .nilIface := rfl
theorem errW_some (c : Int) : errW (some c) = .iface 0 (.int .i64 c) := rfl

theorem info5 : (Tryd.prog.info? 5).map (fun i => (i.zero, i.size, i.bytes)) = some (some (.int .u8 0), 1, 1) := by kernel_rfl
-- the values' own types

end Go.Proofs.YtmlbfepibfobaaaDoor.Q30
end

section
-- Written by this session's program layer.py (the kit's print, turned), not by hand.
namespace Go.Proofs.YtmlbfepibfobaaaDoor.Q30
open Go.RowKit Go.Proofs.YtmlbfepibfobaaaDoorW.PrintWords Go.Proofs.YtmlbfepibfobaaaDoorW.PrintLast Go.Proofs.YtmlbfepibfobaaaDoorW.PrintMore Go.Proofs.YtmlbfepibfobaaaDoor.Hand
attribute [local go_sem] max2_int min2_int max_two min_two max_three min_three max_four min_four   -- for this text's walks alone
set_option linter.unusedVariables false
set_option linter.unusedSimpArgs false

-- BY HAND: function 68 (leb_Put)

/-! ### wire_Text: function 22 -/
def wire_Text.f (a0 : ByteArray) : Option (List Int) := (leb_Put.f (IntKind.u64.wrap ((a0.size : Int)))).bind fun t101 => (if t101.length + a0.size < 140737488355328 then (some (t101 ++ bytesOf a0)) else (none))
set_option maxHeartbeats 8000000 in
set_option maxRecDepth 100000 in
theorem wire_Text.calls (a0 : ByteArray) (r : List Int) (w : World) (h : wire_Text.f a0 = some r) :
    Calls Tryd.prog 22 #[.string a0] w fun e w' => ∃ v0_ : Value, e = .returned (v0_) ∧ Kd.R (Kd.int .u8) 5 w' w.heap.size (fun _ => True) v0_ r ∧ Below w.heap.size w w' := by
  have HB := Aside0.mk (Below.refl w.heap.size w)
  have H : ((leb_Put.f (IntKind.u64.wrap ((a0.size : Int)))).bind fun t101 => (if t101.length + a0.size < 140737488355328 then (some (t101 ++ bytesOf a0)) else (none))) = some r := h
  clear h
  replace H := Option.bind_eq_some_iff.mp H
  obtain ⟨t101, A20, H⟩ := H
  replace H : (if t101.length + a0.size < 140737488355328 then (some (t101 ++ bytesOf a0)) else (none)) = some r := H
  have A2 := Aside0.mk A20
  clear A20
  by_cases c3 : t101.length + a0.size < 140737488355328
  · rw [if_pos c3] at H
    have LMc3 := Aside0.mk c3
    clear c3
    obtain ⟨y104, hy104⟩ : ∃ y_ : List Int, y_ = (t101 ++ bytesOf a0) := ⟨_, rfl⟩
    replace H : (some y104) = some r := by first | (rw [hy104]; with_reducible exact H) | (have H2_ := (Option.bind_some _ _).symm.trans H; rw [hy104]; with_reducible exact H2_) | (have H2_ := (Option.bind_some _ _).symm.trans H; with_reducible exact H2_) | with_reducible exact H | (rw [hy104]; exact H) | exact H
    have Ny104 := Aside0.mk hy104
    clear hy104
    obtain rfl := Option.some.inj H
    go_enter Tryd.func22, Tryd.ntmps22
    go_wp2_with (first | ((with_reducible refine gate_callee (f := 68) rfl ?_); refine goesL_ (some 6) rfl rfl Tryd.func68 (by kernel_rfl) rfl #[.int .u64 (IntKind.u64.wrap ((a0.size : Int)))] rfl (by (try simp only [List.map_toArray, List.map_cons, List.map_nil]); first | done | rfl | (simp only [List.length_drop, List.length_take]; rfl)) ?_; (with_reducible refine (leb_Put.calls (IntKind.u64.wrap ((a0.size : Int))) t101 _ A2.out).mono ?_); rintro e w4 ⟨v102, rfl, ho0, hb⟩; refine ⟨_, rfl, ?_⟩; have n0_ := Aside0.mk (Kd.R_lower ho0 (below_size (by repeat (first | (with_reducible first | exact HB.out | apply below_alloc | apply pw_below_drewN | apply below_drew1) | exact HB.out)))); have n1_ := Aside0.mk (below_step (by repeat (first | (with_reducible first | exact HB.out | apply below_alloc | apply pw_below_drewN | apply below_drew1) | exact HB.out)) hb); clear HB; have HO103 := n0_; have HB := n1_; clear n0_ n1_; (try clear hb); (try clear hb2); (try clear hk); (try clear hi); (try clear ho0)) | (at_builtin; refine print_append_str (w0 := w) w.heap.size rfl (.tmp 6) _ 22 9 5 rfl Tryd.underlying22 Tryd.underlying9 info5 v102 t101 a0 rfl rfl ?aO ?aB ?aS ?aL ?_; (case aB => exact (by repeat (first | (with_reducible first | exact HB.out | apply below_alloc | apply pw_below_drewN | apply below_drew1) | exact HB.out))); (case aO => exact (Kd.own_of_R (by (with_reducible repeat (first | apply Kd.R_alloc | apply Kd.R_drewN | apply Kd.R_drew)); exact HO103.out))); (case aS => exact (below_size (by repeat (first | (with_reducible first | exact HB.out | apply below_alloc | apply pw_below_drewN | apply below_drew1) | exact HB.out)))); (case aL => have := LMc3.out; omega); intro v105 w5 ho0 hb hg; have ho := Kd.R_of_own (h1 := fun _ => rfl) (ok := fun _ => True) ho0 (fun _ _ => trivial); clear ho0; have hat := True.intro; rw [← Ny104.out] at ho; change Kd.R (Kd.int .u8) 5 w5 w.heap.size (fun _ => True) v105 y104 at ho; have n0_ := Aside0.mk (hb); have n1_ := Aside0.mk (ho); clear HB; clear HO103; have HB := n0_; have HO106 := n1_; clear n0_ n1_; clear ho hb hg hat))
    go_ret
    exact ⟨_, by first | rfl | (simp [errW_none, errW_some] <;> rfl) | (simp [*, errW_none, errW_some] <;> rfl), by (with_reducible repeat (first | apply Kd.R_alloc | apply Kd.R_drewN | apply Kd.R_drew)); exact HO106.out, by repeat (first | (with_reducible first | exact HB.out | apply below_alloc | apply pw_below_drewN | apply below_drew1) | exact HB.out)⟩
  · rw [if_neg c3] at H
    exact absurd H (by simp)

-- BY HAND: function 69 (crc_Seal)

/-! ### wire_Section: function 17 -/
def wire_Section.f (a0 : Int) (l1 : List Int) : Option (List Int) := (some (([a0] : List Int) : List Int)).bind fun y107 => ((leb_Put.f (IntKind.u64.wrap ((l1.length : Int)))).bind fun t110 => (if y107.length + t110.length < 140737488355328 then ((some (y107 ++ t110 : List Int)).bind fun y113 => ((crc_Seal.f l1).bind fun t116 => (if y113.length + t116.length < 140737488355328 then (some (y113 ++ t116)) else (none)))) else (none)))
set_option maxHeartbeats 8000000 in
set_option maxRecDepth 100000 in
theorem wire_Section.calls (a0 : Int) (A1 : Option Addr) (c1 : Nat) (l1 : List Int) (r : List Int) (w : World) (hr1 : Kd.C (Kd.int .u8) w A1 l1.length l1) (hc1 : l1.length ≤ c1) (hGCrcTab : CrcTab w) (h : wire_Section.f a0 l1 = some r) :
    Calls Tryd.prog 17 #[.int .u8 a0, .slice A1 l1.length c1] w fun e w' => ∃ v0_ : Value, e = .returned (v0_) ∧ Kd.R (Kd.int .u8) 5 w' w.heap.size (fun _ => True) v0_ r ∧ Below w.heap.size w w' := by
  have HGCrcTab := Aside0.mk hGCrcTab
  clear hGCrcTab
  have HR1 := Aside0.mk hr1
  have HC1 := Aside0.mk hc1
  clear hr1 hc1
  have HB := Aside0.mk (Below.refl w.heap.size w)
  have H : ((some (([a0] : List Int) : List Int)).bind fun y107 => ((leb_Put.f (IntKind.u64.wrap ((l1.length : Int)))).bind fun t110 => (if y107.length + t110.length < 140737488355328 then ((some (y107 ++ t110 : List Int)).bind fun y113 => ((crc_Seal.f l1).bind fun t116 => (if y113.length + t116.length < 140737488355328 then (some (y113 ++ t116)) else (none)))) else (none)))) = some r := h
  clear h
  obtain ⟨y107, hy107⟩ : ∃ y_ : List Int, y_ = (([a0] : List Int)) := ⟨_, rfl⟩
  replace H : ((leb_Put.f (IntKind.u64.wrap ((l1.length : Int)))).bind fun t110 => (if y107.length + t110.length < 140737488355328 then ((some (y107 ++ t110 : List Int)).bind fun y113 => ((crc_Seal.f l1).bind fun t116 => (if y113.length + t116.length < 140737488355328 then (some (y113 ++ t116)) else (none)))) else (none))) = some r := by first | (rw [hy107]; with_reducible exact H) | (have H2_ := (Option.bind_some _ _).symm.trans H; rw [hy107]; with_reducible exact H2_) | (have H2_ := (Option.bind_some _ _).symm.trans H; with_reducible exact H2_) | with_reducible exact H | (rw [hy107]; exact H) | exact H
  have Ny107 := Aside0.mk hy107
  clear hy107
  replace H := Option.bind_eq_some_iff.mp H
  obtain ⟨t110, A30, H⟩ := H
  replace H : (if y107.length + t110.length < 140737488355328 then ((some (y107 ++ t110 : List Int)).bind fun y113 => ((crc_Seal.f l1).bind fun t116 => (if y113.length + t116.length < 140737488355328 then (some (y113 ++ t116)) else (none)))) else (none)) = some r := H
  have A3 := Aside0.mk A30
  clear A30
  by_cases c4 : y107.length + t110.length < 140737488355328
  · rw [if_pos c4] at H
    have LMc4 := Aside0.mk c4
    clear c4
    obtain ⟨y113, hy113⟩ : ∃ y_ : List Int, y_ = (y107 ++ t110) := ⟨_, rfl⟩
    replace H : ((crc_Seal.f l1).bind fun t116 => (if y113.length + t116.length < 140737488355328 then (some (y113 ++ t116)) else (none))) = some r := by first | (rw [hy113]; with_reducible exact H) | (have H2_ := (Option.bind_some _ _).symm.trans H; rw [hy113]; with_reducible exact H2_) | (have H2_ := (Option.bind_some _ _).symm.trans H; with_reducible exact H2_) | with_reducible exact H | (rw [hy113]; exact H) | exact H
    have Ny113 := Aside0.mk hy113
    clear hy113
    replace H := Option.bind_eq_some_iff.mp H
    obtain ⟨t116, A50, H⟩ := H
    replace H : (if y113.length + t116.length < 140737488355328 then (some (y113 ++ t116)) else (none)) = some r := H
    have A5 := Aside0.mk A50
    clear A50
    by_cases c6 : y113.length + t116.length < 140737488355328
    · rw [if_pos c6] at H
      have LMc6 := Aside0.mk c6
      clear c6
      obtain ⟨y119, hy119⟩ : ∃ y_ : List Int, y_ = (y113 ++ t116) := ⟨_, rfl⟩
      replace H : (some y119) = some r := by first | (rw [hy119]; with_reducible exact H) | (have H2_ := (Option.bind_some _ _).symm.trans H; rw [hy119]; with_reducible exact H2_) | (have H2_ := (Option.bind_some _ _).symm.trans H; with_reducible exact H2_) | with_reducible exact H | (rw [hy119]; exact H) | exact H
      have Ny119 := Aside0.mk hy119
      clear hy119
      obtain rfl := Option.some.inj H
      go_enter Tryd.func17, Tryd.ntmps17
      go_wp2_with (first | ((with_reducible refine gate_dst (N := 7) rfl ?_); refine Kd.R_lit (Kd.int .u8) _ 5 ?hg (N := 7) ?hd (xs := ([a0] : List Int)) (inner := [.int .u8 a0]) (ok := fun _ => True) (okp := fun _ => True) ?hr ?hp (fun _ hk => hk) trivial (Below.refl _ _) (Nat.le_refl _) (by simp) ?_; (case hd => rfl); (case hg => rfl); (case hr => first | (go_simp; done) | (go_simp; rfl)); (case hp => exact (Reps.one (show Kd.M (Kd.int .u8) _ _ _ a0 [.int .u8 a0] from rfl) (Reps.none _ _))); intro v108 w7 ho8 hb hg_ hnew_; clear hg_ hnew_; (first | rw [← Ny107.out] at ho8 | (simp only [Int.reduceToNat] at ho8; rw [← Ny107.out] at ho8)); have n0_ := Aside0.mk (Kd.R_lower ho8 (below_size (by repeat (first | (with_reducible first | exact HB.out | apply below_alloc | apply pw_below_drewN | apply below_drew1) | exact HB.out)))); have n1_ := Aside0.mk (below_step (by repeat (first | (with_reducible first | exact HB.out | apply below_alloc | apply pw_below_drewN | apply below_drew1) | exact HB.out)) hb); clear HB; have HO109 := n0_; have HB := n1_; clear n0_ n1_; clear hb ho8) | ((with_reducible refine gate_callee (f := 68) rfl ?_); refine goesL_ (some 11) rfl rfl Tryd.func68 (by kernel_rfl) rfl #[.int .u64 (IntKind.u64.wrap ((l1.length : Int)))] rfl (by (try simp only [List.map_toArray, List.map_cons, List.map_nil]); first | done | rfl | (simp only [List.length_drop, List.length_take]; rfl)) ?_; (with_reducible refine (leb_Put.calls (IntKind.u64.wrap ((l1.length : Int))) t110 _ A3.out).mono ?_); rintro e w9 ⟨v111, rfl, ho0, hb⟩; refine ⟨_, rfl, ?_⟩; have n0_ := Aside0.mk (Kd.R_elder' (by (with_reducible repeat (first | apply Kd.R_alloc | apply Kd.R_drewN | apply Kd.R_drew)); exact HO109.out) (Kd.R_base ho0) hb); have n1_ := Aside0.mk (Kd.R_lower (Kd.R_new' ho0 (Kd.R_lt (by (with_reducible repeat (first | apply Kd.R_alloc | apply Kd.R_drewN | apply Kd.R_drew)); exact HO109.out))) (below_size (by repeat (first | (with_reducible first | exact HB.out | apply below_alloc | apply pw_below_drewN | apply below_drew1) | exact HB.out)))); have n2_ := Aside0.mk (below_step (by repeat (first | (with_reducible first | exact HB.out | apply below_alloc | apply pw_below_drewN | apply below_drew1) | exact HB.out)) hb); clear HO109; clear HB; have HO109 := n0_; have HO112 := n1_; have HB := n2_; clear n0_ n1_ n2_; (try clear hb); (try clear hb2); (try clear hk); (try clear hi); (try clear ho0); obtain ⟨Ao11, co11, eo11⟩ := Kd.R_slice HO112.out; subst eo11) | ((with_reducible refine gate_builtin (b := .append) (xs := #[.tmp 7, .tmp 11]) rfl ?_); at_builtin; refine Kd.R_append_rows (Kd.int .u8) (w0 := w) w.heap.size rfl (.tmp 7) (.tmp 11) 22 5 (.int .u8 0) 1 rfl Tryd.underlying22 info5 rfl (by decide) (by omega) v108 y107 t110 _ _ _ (fun k_ => some k_ ≠ (.slice Ao11 t110.length co11 : Value).ownBlock) (fun _ => False) rfl rfl ?aO ?aR (fun _ _ h => h) (fun _ h => h.elim) ?aF ?aB ?aS ?aL ?_; (case aR => repeat (first | exact (Kd.R_reads' HO112.out).2.2 | (with_reducible refine Kd.C_alloc ?_ _) | (with_reducible refine Kd.C_drewN ?_ _) | (with_reducible refine Kd.C_drew ?_))); (case aB => exact (by repeat (first | (with_reducible first | exact HB.out | apply below_alloc | apply pw_below_drewN | apply below_drew1) | exact HB.out))); (case aF => exact (fun k_ hk => Kd.fresh' (Kd.R_lt (by (with_reducible repeat (first | apply Kd.R_alloc | apply Kd.R_drewN | apply Kd.R_drew)); exact HO112.out)) k_ hk)); (case aO => exact (by (with_reducible repeat (first | apply Kd.R_alloc | apply Kd.R_drewN | apply Kd.R_drew)); exact Kd.R_mono HO109.out (fun _ hk => hk.2))); (case aS => exact (below_size (by repeat (first | (with_reducible first | exact HB.out | apply below_alloc | apply pw_below_drewN | apply below_drew1) | exact HB.out)))); (case aL => have := LMc4.out; omega); intro v114 w10 ho hb hg hat; rw [← Ny113.out] at ho; have n0_ := Aside0.mk (Kd.R_after (ok := (fun _ => True)) (by (with_reducible repeat (first | apply Kd.R_alloc | apply Kd.R_drewN | apply Kd.R_drew)); exact HO112.out) hg hat); have n1_ := Aside0.mk (hb); have n2_ := Aside0.mk (ho); clear HO112; clear HB; clear HO109; have HO112 := n0_; have HB := n1_; have HO115 := n2_; clear n0_ n1_ n2_; clear ho hb hg hat) | ((with_reducible refine gate_callee (f := 69) rfl ?_); refine goesL_ (some 15) rfl rfl Tryd.func69 (by kernel_rfl) rfl #[.slice A1 l1.length c1] rfl (by (try simp only [List.map_toArray, List.map_cons, List.map_nil]); first | done | rfl | (simp only [List.length_drop, List.length_take]; rfl)) ?_; (with_reducible refine (crc_Seal.calls _ _ l1 t116 _ ?side1 ?side2 ?side3 A5.out).mono ?_); (case side1 => repeat (first | exact (Kd.C_below HR1.out HB.out) | (with_reducible refine Kd.C_alloc ?_ _) | (with_reducible refine Kd.C_drewN ?_ _) | (with_reducible refine Kd.C_drew ?_))); (case side2 => exact HC1.out); (case side3 => exact CrcTab.below HGCrcTab.out (by repeat (first | (with_reducible first | exact HB.out | apply below_alloc | apply pw_below_drewN | apply below_drew1) | exact HB.out))); rintro e w12 ⟨v117, rfl, ho0, hb⟩; refine ⟨_, rfl, ?_⟩; have n0_ := Aside0.mk (Kd.R_elder' (by (with_reducible repeat (first | apply Kd.R_alloc | apply Kd.R_drewN | apply Kd.R_drew)); exact HO112.out) (Kd.R_base ho0) hb); have n1_ := Aside0.mk (Kd.R_elder' (by (with_reducible repeat (first | apply Kd.R_alloc | apply Kd.R_drewN | apply Kd.R_drew)); exact HO115.out) (Kd.R_base ho0) hb); have n2_ := Aside0.mk (Kd.R_lower (Kd.R_new' (Kd.R_new' ho0 (Kd.R_lt (by (with_reducible repeat (first | apply Kd.R_alloc | apply Kd.R_drewN | apply Kd.R_drew)); exact HO112.out))) (Kd.R_lt (by (with_reducible repeat (first | apply Kd.R_alloc | apply Kd.R_drewN | apply Kd.R_drew)); exact HO115.out))) (below_size (by repeat (first | (with_reducible first | exact HB.out | apply below_alloc | apply pw_below_drewN | apply below_drew1) | exact HB.out)))); have n3_ := Aside0.mk (below_step (by repeat (first | (with_reducible first | exact HB.out | apply below_alloc | apply pw_below_drewN | apply below_drew1) | exact HB.out)) hb); clear HO112; clear HO115; clear HB; have HO112 := n0_; have HO115 := n1_; have HO118 := n2_; have HB := n3_; clear n0_ n1_ n2_ n3_; (try clear hb); (try clear hb2); (try clear hk); (try clear hi); (try clear ho0); obtain ⟨Ao14, co14, eo14⟩ := Kd.R_slice HO118.out; subst eo14) | ((with_reducible refine gate_builtin (b := .append) (xs := #[.tmp 13, .tmp 15]) rfl ?_); at_builtin; refine Kd.R_append_rows (Kd.int .u8) (w0 := w) w.heap.size rfl (.tmp 13) (.tmp 15) 22 5 (.int .u8 0) 1 rfl Tryd.underlying22 info5 rfl (by decide) (by omega) v114 y113 t116 _ _ _ (fun k_ => some k_ ≠ (.slice Ao11 t110.length co11 : Value).ownBlock ∧ some k_ ≠ (.slice Ao14 t116.length co14 : Value).ownBlock) (fun _ => False) rfl rfl ?aO ?aR (fun _ _ h => h) (fun _ h => h.elim) ?aF ?aB ?aS ?aL ?_; (case aR => repeat (first | exact (Kd.R_reads' HO118.out).2.2 | (with_reducible refine Kd.C_alloc ?_ _) | (with_reducible refine Kd.C_drewN ?_ _) | (with_reducible refine Kd.C_drew ?_))); (case aB => exact (by repeat (first | (with_reducible first | exact HB.out | apply below_alloc | apply pw_below_drewN | apply below_drew1) | exact HB.out))); (case aF => exact (fun k_ hk => ⟨Kd.fresh' (Kd.R_lt (by (with_reducible repeat (first | apply Kd.R_alloc | apply Kd.R_drewN | apply Kd.R_drew)); exact HO112.out)) k_ hk, Kd.fresh' (Kd.R_lt (by (with_reducible repeat (first | apply Kd.R_alloc | apply Kd.R_drewN | apply Kd.R_drew)); exact HO118.out)) k_ hk⟩)); (case aO => exact (by (with_reducible repeat (first | apply Kd.R_alloc | apply Kd.R_drewN | apply Kd.R_drew)); exact HO115.out)); (case aS => exact (below_size (by repeat (first | (with_reducible first | exact HB.out | apply below_alloc | apply pw_below_drewN | apply below_drew1) | exact HB.out)))); (case aL => have := LMc6.out; omega); intro v120 w13 ho hb hg hat; rw [← Ny119.out] at ho; have n0_ := Aside0.mk (Kd.R_after (ok := (fun k_ => some k_ ≠ (.slice Ao14 t116.length co14 : Value).ownBlock)) (by (with_reducible repeat (first | apply Kd.R_alloc | apply Kd.R_drewN | apply Kd.R_drew)); exact Kd.R_mono HO112.out (fun _ hk => ⟨hk.2, hk.1.2⟩)) hg hat); have n1_ := Aside0.mk (Kd.R_after (ok := (fun k_ => some k_ ≠ (.slice Ao11 t110.length co11 : Value).ownBlock)) (by (with_reducible repeat (first | apply Kd.R_alloc | apply Kd.R_drewN | apply Kd.R_drew)); exact Kd.R_mono HO118.out (fun _ hk => ⟨hk.1.2, hk.2⟩)) hg hat); have n2_ := Aside0.mk (hb); have n3_ := Aside0.mk (ho); clear HO112; clear HO118; clear HB; clear HO115; have HO112 := n0_; have HO118 := n1_; have HB := n2_; have HO121 := n3_; clear n0_ n1_ n2_ n3_; clear ho hb hg hat))
      go_ret
      exact ⟨_, by first | rfl | (simp [errW_none, errW_some] <;> rfl) | (simp [*, errW_none, errW_some] <;> rfl), by (with_reducible repeat (first | apply Kd.R_alloc | apply Kd.R_drewN | apply Kd.R_drew)); exact Kd.R_mono HO121.out (fun _ hk => trivial), by repeat (first | (with_reducible first | exact HB.out | apply below_alloc | apply pw_below_drewN | apply below_drew1) | exact HB.out)⟩
    · rw [if_neg c6] at H
      exact absurd H (by simp)
  · rw [if_neg c4] at H
    exact absurd H (by simp)

-- BY HAND: function 25 (secateurref01_Put)

/-! ### secateurref03_Text: function 23 -/
def secateurref03_Text.f (a0 : ByteArray) : Option (List Int) := (secateurref01_Put.f (IntKind.u64.wrap ((a0.size : Int)))).bind fun t122 => (if t122.length + a0.size < 140737488355328 then (some (t122 ++ bytesOf a0)) else (none))
set_option maxHeartbeats 8000000 in
set_option maxRecDepth 100000 in
theorem secateurref03_Text.calls (a0 : ByteArray) (r : List Int) (w : World) (h : secateurref03_Text.f a0 = some r) :
    Calls Tryd.prog 23 #[.string a0] w fun e w' => ∃ v0_ : Value, e = .returned (v0_) ∧ Kd.R (Kd.int .u8) 5 w' w.heap.size (fun _ => True) v0_ r ∧ Below w.heap.size w w' := by
  have HB := Aside0.mk (Below.refl w.heap.size w)
  have H : ((secateurref01_Put.f (IntKind.u64.wrap ((a0.size : Int)))).bind fun t122 => (if t122.length + a0.size < 140737488355328 then (some (t122 ++ bytesOf a0)) else (none))) = some r := h
  clear h
  replace H := Option.bind_eq_some_iff.mp H
  obtain ⟨t122, A20, H⟩ := H
  replace H : (if t122.length + a0.size < 140737488355328 then (some (t122 ++ bytesOf a0)) else (none)) = some r := H
  have A2 := Aside0.mk A20
  clear A20
  by_cases c3 : t122.length + a0.size < 140737488355328
  · rw [if_pos c3] at H
    have LMc3 := Aside0.mk c3
    clear c3
    obtain ⟨y125, hy125⟩ : ∃ y_ : List Int, y_ = (t122 ++ bytesOf a0) := ⟨_, rfl⟩
    replace H : (some y125) = some r := by first | (rw [hy125]; with_reducible exact H) | (have H2_ := (Option.bind_some _ _).symm.trans H; rw [hy125]; with_reducible exact H2_) | (have H2_ := (Option.bind_some _ _).symm.trans H; with_reducible exact H2_) | with_reducible exact H | (rw [hy125]; exact H) | exact H
    have Ny125 := Aside0.mk hy125
    clear hy125
    obtain rfl := Option.some.inj H
    go_enter Tryd.func23, Tryd.ntmps23
    go_wp2_with (first | ((with_reducible refine gate_callee (f := 25) rfl ?_); refine goesL_ (some 7) rfl rfl Tryd.func25 (by kernel_rfl) rfl #[.int .u64 (IntKind.u64.wrap ((a0.size : Int)))] rfl (by (try simp only [List.map_toArray, List.map_cons, List.map_nil]); first | done | rfl | (simp only [List.length_drop, List.length_take]; rfl)) ?_; (with_reducible refine (secateurref01_Put.calls (IntKind.u64.wrap ((a0.size : Int))) t122 _ A2.out).mono ?_); rintro e w4 ⟨v123, rfl, ho0, hb⟩; refine ⟨_, rfl, ?_⟩; have n0_ := Aside0.mk (Kd.R_lower ho0 (below_size (by repeat (first | (with_reducible first | exact HB.out | apply below_alloc | apply pw_below_drewN | apply below_drew1) | exact HB.out)))); have n1_ := Aside0.mk (below_step (by repeat (first | (with_reducible first | exact HB.out | apply below_alloc | apply pw_below_drewN | apply below_drew1) | exact HB.out)) hb); clear HB; have HO124 := n0_; have HB := n1_; clear n0_ n1_; (try clear hb); (try clear hb2); (try clear hk); (try clear hi); (try clear ho0)) | (at_builtin; refine print_append_str (w0 := w) w.heap.size rfl (.tmp 8) _ 22 9 5 rfl Tryd.underlying22 Tryd.underlying9 info5 v123 t122 a0 rfl rfl ?aO ?aB ?aS ?aL ?_; (case aB => exact (by repeat (first | (with_reducible first | exact HB.out | apply below_alloc | apply pw_below_drewN | apply below_drew1) | exact HB.out))); (case aO => exact (Kd.own_of_R (by (with_reducible repeat (first | apply Kd.R_alloc | apply Kd.R_drewN | apply Kd.R_drew)); exact HO124.out))); (case aS => exact (below_size (by repeat (first | (with_reducible first | exact HB.out | apply below_alloc | apply pw_below_drewN | apply below_drew1) | exact HB.out)))); (case aL => have := LMc3.out; omega); intro v126 w5 ho0 hb hg; have ho := Kd.R_of_own (h1 := fun _ => rfl) (ok := fun _ => True) ho0 (fun _ _ => trivial); clear ho0; have hat := True.intro; rw [← Ny125.out] at ho; change Kd.R (Kd.int .u8) 5 w5 w.heap.size (fun _ => True) v126 y125 at ho; have n0_ := Aside0.mk (hb); have n1_ := Aside0.mk (ho); clear HB; clear HO124; have HB := n0_; have HO127 := n1_; clear n0_ n1_; clear ho hb hg hat))
    go_ret
    exact ⟨_, by first | rfl | (simp [errW_none, errW_some] <;> rfl) | (simp [*, errW_none, errW_some] <;> rfl), by (with_reducible repeat (first | apply Kd.R_alloc | apply Kd.R_drewN | apply Kd.R_drew)); exact HO127.out, by repeat (first | (with_reducible first | exact HB.out | apply below_alloc | apply pw_below_drewN | apply below_drew1) | exact HB.out)⟩
  · rw [if_neg c3] at H
    exact absurd H (by simp)

-- BY HAND: function 78 (secateurref02_Seal)

/-! ### secateurref03_Section: function 24 -/
def secateurref03_Section.f (a0 : Int) (l1 : List Int) : Option (List Int) := (some (([a0] : List Int) : List Int)).bind fun y128 => ((secateurref01_Put.f (IntKind.u64.wrap ((l1.length : Int)))).bind fun t131 => (if y128.length + t131.length < 140737488355328 then ((some (y128 ++ t131 : List Int)).bind fun y134 => ((secateurref02_Seal.f l1).bind fun t137 => (if y134.length + t137.length < 140737488355328 then (some (y134 ++ t137)) else (none)))) else (none)))
set_option maxHeartbeats 8000000 in
set_option maxRecDepth 100000 in
theorem secateurref03_Section.calls (a0 : Int) (A1 : Option Addr) (c1 : Nat) (l1 : List Int) (r : List Int) (w : World) (hr1 : Kd.C (Kd.int .u8) w A1 l1.length l1) (hc1 : l1.length ≤ c1) (h : secateurref03_Section.f a0 l1 = some r) :
    Calls Tryd.prog 24 #[.int .u8 a0, .slice A1 l1.length c1] w fun e w' => ∃ v0_ : Value, e = .returned (v0_) ∧ Kd.R (Kd.int .u8) 5 w' w.heap.size (fun _ => True) v0_ r ∧ Below w.heap.size w w' := by
  have HR1 := Aside0.mk hr1
  have HC1 := Aside0.mk hc1
  clear hr1 hc1
  have HB := Aside0.mk (Below.refl w.heap.size w)
  have H : ((some (([a0] : List Int) : List Int)).bind fun y128 => ((secateurref01_Put.f (IntKind.u64.wrap ((l1.length : Int)))).bind fun t131 => (if y128.length + t131.length < 140737488355328 then ((some (y128 ++ t131 : List Int)).bind fun y134 => ((secateurref02_Seal.f l1).bind fun t137 => (if y134.length + t137.length < 140737488355328 then (some (y134 ++ t137)) else (none)))) else (none)))) = some r := h
  clear h
  obtain ⟨y128, hy128⟩ : ∃ y_ : List Int, y_ = (([a0] : List Int)) := ⟨_, rfl⟩
  replace H : ((secateurref01_Put.f (IntKind.u64.wrap ((l1.length : Int)))).bind fun t131 => (if y128.length + t131.length < 140737488355328 then ((some (y128 ++ t131 : List Int)).bind fun y134 => ((secateurref02_Seal.f l1).bind fun t137 => (if y134.length + t137.length < 140737488355328 then (some (y134 ++ t137)) else (none)))) else (none))) = some r := by first | (rw [hy128]; with_reducible exact H) | (have H2_ := (Option.bind_some _ _).symm.trans H; rw [hy128]; with_reducible exact H2_) | (have H2_ := (Option.bind_some _ _).symm.trans H; with_reducible exact H2_) | with_reducible exact H | (rw [hy128]; exact H) | exact H
  have Ny128 := Aside0.mk hy128
  clear hy128
  replace H := Option.bind_eq_some_iff.mp H
  obtain ⟨t131, A30, H⟩ := H
  replace H : (if y128.length + t131.length < 140737488355328 then ((some (y128 ++ t131 : List Int)).bind fun y134 => ((secateurref02_Seal.f l1).bind fun t137 => (if y134.length + t137.length < 140737488355328 then (some (y134 ++ t137)) else (none)))) else (none)) = some r := H
  have A3 := Aside0.mk A30
  clear A30
  by_cases c4 : y128.length + t131.length < 140737488355328
  · rw [if_pos c4] at H
    have LMc4 := Aside0.mk c4
    clear c4
    obtain ⟨y134, hy134⟩ : ∃ y_ : List Int, y_ = (y128 ++ t131) := ⟨_, rfl⟩
    replace H : ((secateurref02_Seal.f l1).bind fun t137 => (if y134.length + t137.length < 140737488355328 then (some (y134 ++ t137)) else (none))) = some r := by first | (rw [hy134]; with_reducible exact H) | (have H2_ := (Option.bind_some _ _).symm.trans H; rw [hy134]; with_reducible exact H2_) | (have H2_ := (Option.bind_some _ _).symm.trans H; with_reducible exact H2_) | with_reducible exact H | (rw [hy134]; exact H) | exact H
    have Ny134 := Aside0.mk hy134
    clear hy134
    replace H := Option.bind_eq_some_iff.mp H
    obtain ⟨t137, A50, H⟩ := H
    replace H : (if y134.length + t137.length < 140737488355328 then (some (y134 ++ t137)) else (none)) = some r := H
    have A5 := Aside0.mk A50
    clear A50
    by_cases c6 : y134.length + t137.length < 140737488355328
    · rw [if_pos c6] at H
      have LMc6 := Aside0.mk c6
      clear c6
      obtain ⟨y140, hy140⟩ : ∃ y_ : List Int, y_ = (y134 ++ t137) := ⟨_, rfl⟩
      replace H : (some y140) = some r := by first | (rw [hy140]; with_reducible exact H) | (have H2_ := (Option.bind_some _ _).symm.trans H; rw [hy140]; with_reducible exact H2_) | (have H2_ := (Option.bind_some _ _).symm.trans H; with_reducible exact H2_) | with_reducible exact H | (rw [hy140]; exact H) | exact H
      have Ny140 := Aside0.mk hy140
      clear hy140
      obtain rfl := Option.some.inj H
      go_enter Tryd.func24, Tryd.ntmps24
      go_wp2_with (first | ((with_reducible refine gate_dst (N := 7) rfl ?_); refine Kd.R_lit (Kd.int .u8) _ 5 ?hg (N := 7) ?hd (xs := ([a0] : List Int)) (inner := [.int .u8 a0]) (ok := fun _ => True) (okp := fun _ => True) ?hr ?hp (fun _ hk => hk) trivial (Below.refl _ _) (Nat.le_refl _) (by simp) ?_; (case hd => rfl); (case hg => rfl); (case hr => first | (go_simp; done) | (go_simp; rfl)); (case hp => exact (Reps.one (show Kd.M (Kd.int .u8) _ _ _ a0 [.int .u8 a0] from rfl) (Reps.none _ _))); intro v129 w7 ho8 hb hg_ hnew_; clear hg_ hnew_; (first | rw [← Ny128.out] at ho8 | (simp only [Int.reduceToNat] at ho8; rw [← Ny128.out] at ho8)); have n0_ := Aside0.mk (Kd.R_lower ho8 (below_size (by repeat (first | (with_reducible first | exact HB.out | apply below_alloc | apply pw_below_drewN | apply below_drew1) | exact HB.out)))); have n1_ := Aside0.mk (below_step (by repeat (first | (with_reducible first | exact HB.out | apply below_alloc | apply pw_below_drewN | apply below_drew1) | exact HB.out)) hb); clear HB; have HO130 := n0_; have HB := n1_; clear n0_ n1_; clear hb ho8) | ((with_reducible refine gate_callee (f := 25) rfl ?_); refine goesL_ (some 12) rfl rfl Tryd.func25 (by kernel_rfl) rfl #[.int .u64 (IntKind.u64.wrap ((l1.length : Int)))] rfl (by (try simp only [List.map_toArray, List.map_cons, List.map_nil]); first | done | rfl | (simp only [List.length_drop, List.length_take]; rfl)) ?_; (with_reducible refine (secateurref01_Put.calls (IntKind.u64.wrap ((l1.length : Int))) t131 _ A3.out).mono ?_); rintro e w9 ⟨v132, rfl, ho0, hb⟩; refine ⟨_, rfl, ?_⟩; have n0_ := Aside0.mk (Kd.R_elder' (by (with_reducible repeat (first | apply Kd.R_alloc | apply Kd.R_drewN | apply Kd.R_drew)); exact HO130.out) (Kd.R_base ho0) hb); have n1_ := Aside0.mk (Kd.R_lower (Kd.R_new' ho0 (Kd.R_lt (by (with_reducible repeat (first | apply Kd.R_alloc | apply Kd.R_drewN | apply Kd.R_drew)); exact HO130.out))) (below_size (by repeat (first | (with_reducible first | exact HB.out | apply below_alloc | apply pw_below_drewN | apply below_drew1) | exact HB.out)))); have n2_ := Aside0.mk (below_step (by repeat (first | (with_reducible first | exact HB.out | apply below_alloc | apply pw_below_drewN | apply below_drew1) | exact HB.out)) hb); clear HO130; clear HB; have HO130 := n0_; have HO133 := n1_; have HB := n2_; clear n0_ n1_ n2_; (try clear hb); (try clear hb2); (try clear hk); (try clear hi); (try clear ho0); obtain ⟨Ao11, co11, eo11⟩ := Kd.R_slice HO133.out; subst eo11) | ((with_reducible refine gate_builtin (b := .append) (xs := #[.tmp 8, .tmp 12]) rfl ?_); at_builtin; refine Kd.R_append_rows (Kd.int .u8) (w0 := w) w.heap.size rfl (.tmp 8) (.tmp 12) 22 5 (.int .u8 0) 1 rfl Tryd.underlying22 info5 rfl (by decide) (by omega) v129 y128 t131 _ _ _ (fun k_ => some k_ ≠ (.slice Ao11 t131.length co11 : Value).ownBlock) (fun _ => False) rfl rfl ?aO ?aR (fun _ _ h => h) (fun _ h => h.elim) ?aF ?aB ?aS ?aL ?_; (case aR => repeat (first | exact (Kd.R_reads' HO133.out).2.2 | (with_reducible refine Kd.C_alloc ?_ _) | (with_reducible refine Kd.C_drewN ?_ _) | (with_reducible refine Kd.C_drew ?_))); (case aB => exact (by repeat (first | (with_reducible first | exact HB.out | apply below_alloc | apply pw_below_drewN | apply below_drew1) | exact HB.out))); (case aF => exact (fun k_ hk => Kd.fresh' (Kd.R_lt (by (with_reducible repeat (first | apply Kd.R_alloc | apply Kd.R_drewN | apply Kd.R_drew)); exact HO133.out)) k_ hk)); (case aO => exact (by (with_reducible repeat (first | apply Kd.R_alloc | apply Kd.R_drewN | apply Kd.R_drew)); exact Kd.R_mono HO130.out (fun _ hk => hk.2))); (case aS => exact (below_size (by repeat (first | (with_reducible first | exact HB.out | apply below_alloc | apply pw_below_drewN | apply below_drew1) | exact HB.out)))); (case aL => have := LMc4.out; omega); intro v135 w10 ho hb hg hat; rw [← Ny134.out] at ho; have n0_ := Aside0.mk (Kd.R_after (ok := (fun _ => True)) (by (with_reducible repeat (first | apply Kd.R_alloc | apply Kd.R_drewN | apply Kd.R_drew)); exact HO133.out) hg hat); have n1_ := Aside0.mk (hb); have n2_ := Aside0.mk (ho); clear HO133; clear HB; clear HO130; have HO133 := n0_; have HB := n1_; have HO136 := n2_; clear n0_ n1_ n2_; clear ho hb hg hat) | ((with_reducible refine gate_callee (f := 78) rfl ?_); refine goesL_ (some 16) rfl rfl Tryd.func78 (by kernel_rfl) rfl #[.slice A1 l1.length c1] rfl (by (try simp only [List.map_toArray, List.map_cons, List.map_nil]); first | done | rfl | (simp only [List.length_drop, List.length_take]; rfl)) ?_; (with_reducible refine (secateurref02_Seal.calls _ _ l1 t137 _ ?side1 ?side2 A5.out).mono ?_); (case side1 => repeat (first | exact (Kd.C_below HR1.out HB.out) | (with_reducible refine Kd.C_alloc ?_ _) | (with_reducible refine Kd.C_drewN ?_ _) | (with_reducible refine Kd.C_drew ?_))); (case side2 => exact HC1.out); rintro e w12 ⟨v138, rfl, ho0, hb⟩; refine ⟨_, rfl, ?_⟩; have n0_ := Aside0.mk (Kd.R_elder' (by (with_reducible repeat (first | apply Kd.R_alloc | apply Kd.R_drewN | apply Kd.R_drew)); exact HO133.out) (Kd.R_base ho0) hb); have n1_ := Aside0.mk (Kd.R_elder' (by (with_reducible repeat (first | apply Kd.R_alloc | apply Kd.R_drewN | apply Kd.R_drew)); exact HO136.out) (Kd.R_base ho0) hb); have n2_ := Aside0.mk (Kd.R_lower (Kd.R_new' (Kd.R_new' ho0 (Kd.R_lt (by (with_reducible repeat (first | apply Kd.R_alloc | apply Kd.R_drewN | apply Kd.R_drew)); exact HO133.out))) (Kd.R_lt (by (with_reducible repeat (first | apply Kd.R_alloc | apply Kd.R_drewN | apply Kd.R_drew)); exact HO136.out))) (below_size (by repeat (first | (with_reducible first | exact HB.out | apply below_alloc | apply pw_below_drewN | apply below_drew1) | exact HB.out)))); have n3_ := Aside0.mk (below_step (by repeat (first | (with_reducible first | exact HB.out | apply below_alloc | apply pw_below_drewN | apply below_drew1) | exact HB.out)) hb); clear HO133; clear HO136; clear HB; have HO133 := n0_; have HO136 := n1_; have HO139 := n2_; have HB := n3_; clear n0_ n1_ n2_ n3_; (try clear hb); (try clear hb2); (try clear hk); (try clear hi); (try clear ho0); obtain ⟨Ao14, co14, eo14⟩ := Kd.R_slice HO139.out; subst eo14) | ((with_reducible refine gate_builtin (b := .append) (xs := #[.tmp 14, .tmp 16]) rfl ?_); at_builtin; refine Kd.R_append_rows (Kd.int .u8) (w0 := w) w.heap.size rfl (.tmp 14) (.tmp 16) 22 5 (.int .u8 0) 1 rfl Tryd.underlying22 info5 rfl (by decide) (by omega) v135 y134 t137 _ _ _ (fun k_ => some k_ ≠ (.slice Ao11 t131.length co11 : Value).ownBlock ∧ some k_ ≠ (.slice Ao14 t137.length co14 : Value).ownBlock) (fun _ => False) rfl rfl ?aO ?aR (fun _ _ h => h) (fun _ h => h.elim) ?aF ?aB ?aS ?aL ?_; (case aR => repeat (first | exact (Kd.R_reads' HO139.out).2.2 | (with_reducible refine Kd.C_alloc ?_ _) | (with_reducible refine Kd.C_drewN ?_ _) | (with_reducible refine Kd.C_drew ?_))); (case aB => exact (by repeat (first | (with_reducible first | exact HB.out | apply below_alloc | apply pw_below_drewN | apply below_drew1) | exact HB.out))); (case aF => exact (fun k_ hk => ⟨Kd.fresh' (Kd.R_lt (by (with_reducible repeat (first | apply Kd.R_alloc | apply Kd.R_drewN | apply Kd.R_drew)); exact HO133.out)) k_ hk, Kd.fresh' (Kd.R_lt (by (with_reducible repeat (first | apply Kd.R_alloc | apply Kd.R_drewN | apply Kd.R_drew)); exact HO139.out)) k_ hk⟩)); (case aO => exact (by (with_reducible repeat (first | apply Kd.R_alloc | apply Kd.R_drewN | apply Kd.R_drew)); exact HO136.out)); (case aS => exact (below_size (by repeat (first | (with_reducible first | exact HB.out | apply below_alloc | apply pw_below_drewN | apply below_drew1) | exact HB.out)))); (case aL => have := LMc6.out; omega); intro v141 w13 ho hb hg hat; rw [← Ny140.out] at ho; have n0_ := Aside0.mk (Kd.R_after (ok := (fun k_ => some k_ ≠ (.slice Ao14 t137.length co14 : Value).ownBlock)) (by (with_reducible repeat (first | apply Kd.R_alloc | apply Kd.R_drewN | apply Kd.R_drew)); exact Kd.R_mono HO133.out (fun _ hk => ⟨hk.2, hk.1.2⟩)) hg hat); have n1_ := Aside0.mk (Kd.R_after (ok := (fun k_ => some k_ ≠ (.slice Ao11 t131.length co11 : Value).ownBlock)) (by (with_reducible repeat (first | apply Kd.R_alloc | apply Kd.R_drewN | apply Kd.R_drew)); exact Kd.R_mono HO139.out (fun _ hk => ⟨hk.1.2, hk.2⟩)) hg hat); have n2_ := Aside0.mk (hb); have n3_ := Aside0.mk (ho); clear HO133; clear HO139; clear HB; clear HO136; have HO133 := n0_; have HO139 := n1_; have HB := n2_; have HO142 := n3_; clear n0_ n1_ n2_ n3_; clear ho hb hg hat))
      go_ret
      exact ⟨_, by first | rfl | (simp [errW_none, errW_some] <;> rfl) | (simp [*, errW_none, errW_some] <;> rfl), by (with_reducible repeat (first | apply Kd.R_alloc | apply Kd.R_drewN | apply Kd.R_drew)); exact Kd.R_mono HO142.out (fun _ hk => trivial), by repeat (first | (with_reducible first | exact HB.out | apply below_alloc | apply pw_below_drewN | apply below_drew1) | exact HB.out)⟩
    · rw [if_neg c6] at H
      exact absurd H (by simp)
  · rw [if_neg c4] at H
    exact absurd H (by simp)

end Go.Proofs.YtmlbfepibfobaaaDoor.Q30
end

section
-- Written by this session's program layer.py (the kit's print, turned), not by hand.
namespace Go.Proofs.YtmlbfepibfobaaaDoor.Q30
open Go.RowKit Go.Proofs.YtmlbfepibfobaaaDoorW.PrintWords Go.Proofs.YtmlbfepibfobaaaDoorW.PrintLast Go.Proofs.YtmlbfepibfobaaaDoorW.PrintMore Go.Proofs.YtmlbfepibfobaaaDoor.Hand
attribute [local go_sem] max2_int min2_int max_two min_two max_three min_three max_four min_four   -- for this text's walks alone
set_option linter.unusedVariables false
set_option linter.unusedSimpArgs false

end Go.Proofs.YtmlbfepibfobaaaDoor.Q30
end

section
namespace Go.Proofs.YtmlbfepibfobaaaDoor.Hand
open Go.RowKit Go.Proofs.YtmlbfepibfobaaaDoorW.PrintWords Go.Proofs.YtmlbfepibfobaaaDoorW.PrintLast Go.Proofs.YtmlbfepibfobaaaDoorW.PrintMore
set_option linter.unusedVariables false
set_option linter.unusedSimpArgs false

theorem below_gr {w W w1 : World} {b : Nat} (h : Below w.heap.size w W) (hg : W.grownBy w1 (some b)) (hb : w.heap.size ≤ b) : Below w.heap.size w w1 := h.grown hg h.size (fun k e => by cases e; exact hb)
def secateurlaw03_live.f : Option Bool := some true
set_option maxHeartbeats 8000000 in
set_option maxRecDepth 100000 in
theorem secateurlaw03_live.calls (r : Bool) (w : World) (hGCrcTab : CrcTab w) (h : secateurlaw03_live.f = some r) :
    Calls Tryd.prog 16 #[] w fun e w' => e = .returned (.bool r) ∧ Below w.heap.size w w' := by
  obtain rfl := Option.some.inj h
  have HG := Aside0.mk hGCrcTab
  clear hGCrcTab h
  have hq1 : ∀ (w : World), (binOp .eql 31 (.agg #[.int .i64 1, .int .i64 0]) (.agg #[.int .i64 1, .int .i64 0])).run Tryd.prog w = .ok (.bool true) w := fun _ => by kernel_rfl
  have hq7 : ∀ (w : World), (binOp .eql 31 (.agg #[.int .i64 7, .int .i64 0]) (.agg #[.int .i64 7, .int .i64 0])).run Tryd.prog w = .ok (.bool true) w := fun _ => by kernel_rfl
  have ht : lebTake ([2, 97, 98].take [2, 97, 98].length) ((0 : Nat) : Int) = (((2 : Nat) : Int), ((1 : Nat) : Int), 0) := by decide +kernel
  have hs : strOfNums (cutN [2, 97, 98] 1 2) = ⟨#[97, 98]⟩ := by decide +kernel
  obtain ⟨x, hx⟩ : ∃ x, Q30.wire_Section.f 1 [] = some x := ⟨_, rfl⟩
  have hx6 : x.length = 6 := by
    have : (Q30.wire_Section.f 1 []).map List.length = some 6 := by decide +kernel
    rw [hx] at this
    exact Option.some.inj this
  have HT := Aside0.mk ht; have HS := Aside0.mk hs; have HX := Aside0.mk hx; have HX6 := Aside0.mk hx6
  clear ht hs hx hx6
  have HB0 := Aside0.mk (below_alloc (Below.refl w.heap.size w) (.cells #[.int .u8 2, .int .u8 97, .int .u8 98] 5))
  have HC0 := Aside0.mk (C_of_blk (k := .u8) (t := 5) (cs := [2, 97, 98]) (World.alloc_heap_new w (.cells #[.int .u8 2, .int .u8 97, .int .u8 98] 5)) (by decide))
  go_enter Tryd.func16, Tryd.ntmps16
  go_wp2_with fail
  refine (wire_Open _ 3 [2, 97, 98] _ HC0.out (by decide) (by decide) (by decide)).mono ?_
  rintro e w1 ⟨⟨b1, A1, c1, rfl, hb1, hr1, hf1, ha1⟩, hB1⟩
  have HB1 := Aside0.mk (below_step HB0.out hB1)
  have hb1' : w.heap.size ≤ b1 := Nat.le_trans HB0.out.size hb1
  go_wp2_with fail
  refine (wire_Text_some b1 A1 c1 _ _ 0 0 w1 hr1 hf1 _ 1 HT.out 2 rfl (by decide) (by decide)).mono ?_
  rintro e w2 ⟨rfl, hr2, hg2⟩
  rw [HS.out]
  have HB2 := Aside0.mk (below_gr HB1.out hg2 hb1')
  have HA2 := Aside0.mk (below_alloc HB2.out (.cells #[.int .u8 7] 5))
  have HC2 := Aside0.mk (C_of_blk (k := .u8) (t := 5) (cs := [7]) (World.alloc_heap_new w2 (.cells #[.int .u8 7] 5)) (by decide))
  have hr2a := rd_below hr2 (below_alloc (Below.refl w2.heap.size w2) (.cells #[.int .u8 7] 5))
  go_wp2_with fail
  refine (wire_Open _ 1 [7] _ HC2.out (by decide) (by decide) (by decide)).mono ?_
  rintro e w3 ⟨⟨b3, A3, c3, rfl, hb3, hr3, hf3, ha3⟩, hB3⟩
  have HB3 := Aside0.mk (below_step HA2.out hB3)
  have hr2b := rd_below hr2a hB3
  have hb3' : w.heap.size ≤ b3 := Nat.le_trans HA2.out.size hb3
  go_wp2_with fail
  refine (wire_Section_form b3 A3 c3 _ _ 0 0 w3 hr3 hf3 8 (by decide) (by decide)).mono ?_
  rintro e w4 ⟨rfl, hr4, hg4⟩
  have HB4 := Aside0.mk (below_gr HB3.out hg4 hb3')
  have hne : b1 ≠ b3 := fun e => by have := rd_lt hr2a; omega
  have hr2c := rd_kept hr2b hg4 hne (fun ad e => fun h2 => by
    have h1 := C_far hr2a.2 (by decide) ad e
    omega)
  go_wp2_with fail
  refine (wire_End_some b1 A1 c1 _ _ 3 0 w4 hr2c hf1 rfl).mono ?_
  rintro e w5 ⟨rfl, hr5, hg5⟩
  have HB5 := Aside0.mk (below_gr HB4.out hg5 hb1')
  have hr4b := rd_kept hr4 hg5 (Ne.symm hne) (fun ad e => fun h2 => by
    have h1 := ha3 ad e
    have := rd_lt hr2a
    omega)
  go_wp2_with fail
  refine (wire_Fault b3 A3 c3 _ _ _ _ _ w5 hr4b).mono ?_
  rintro e w6 ⟨rfl, hB6⟩
  have HB6 := Aside0.mk (below_step HB5.out hB6)
  go_wp2_with fail
  refine (wire_Fault_nil w6).mono ?_
  rintro e w7 ⟨rfl, hB7⟩
  have HB7 := Aside0.mk (below_step HB6.out hB7)
  go_wp2_with fail
  refine (Q30.wire_Section.calls 1 none 0 [] x w7 (Kd.C_nil _ _) (by decide) (HG.out.below HB7.out) HX.out).mono ?_
  rintro e w8 ⟨v8, rfl, hR8, hB8⟩
  obtain ⟨A8, c8, rfl⟩ := Kd.R_slice hR8
  rw [HX6.out]
  have HB8 := Aside0.mk (below_step HB7.out hB8)
  go_wp2
  go_ret
  exact ⟨rfl, HB8.out⟩
end Go.Proofs.YtmlbfepibfobaaaDoor.Hand
end

section
namespace Go.Proofs.YtmlbfepibfobaaaDoor.Hand
open Go.RowKit Go.Proofs.YtmlbfepibfobaaaDoorW.PrintWords Go.Proofs.YtmlbfepibfobaaaDoorW.PrintLast Go.Proofs.YtmlbfepibfobaaaDoorW.PrintMore
set_option linter.unusedVariables false
set_option linter.unusedSimpArgs false

def textW (s : ByteArray) : List Int := lebPut (s.size : Int) ++ bytesOf s
def sectW (id : Int) (l : List Int) : List Int := ([id] ++ lebPut (l.length : Int)) ++ sealL l
def wire_Text.f (a0 : ByteArray) : Option (List Int) := if a0.size ≤ 70368744177000 then some (textW a0) else none
def secateurref03_Text.f (a0 : ByteArray) : Option (List Int) := if a0.size ≤ 70368744177000 then some (textW a0) else none
def wire_Section.f (a0 : Int) (l1 : List Int) : Option (List Int) := if l1.all byteB = true ∧ l1.length ≤ 70368744177000 then some (sectW a0 l1) else none
def secateurref03_Section.f (a0 : Int) (l1 : List Int) : Option (List Int) := if l1.all byteB = true ∧ l1.length ≤ 70368744177000 then some (sectW a0 l1) else none
theorem sealL_len (l : List Int) : (sealL l).length = l.length + 4 := by simp [sealL, sumBytes]
theorem put_n (n : Nat) (h : n ≤ 70368744177000) : leb_Put.f (IntKind.u64.wrap (n : Int)) = some (lebPut (n : Int)) := by
  rw [u64w (by omega) (by omega)]
  unfold leb_Put.f
  rw [if_pos (by omega), if_pos (by omega)]
theorem wire_Text.calls (a0 : ByteArray) (r : List Int) (w : World) (h : wire_Text.f a0 = some r) :
    Calls Tryd.prog 22 #[.string a0] w fun e w' => ∃ v0_ : Value, e = .returned (v0_) ∧ Kd.R (Kd.int .u8) 5 w' w.heap.size (fun _ => True) v0_ r ∧ Below w.heap.size w w' := by
  unfold wire_Text.f at h
  split at h
  · rename_i hg
    obtain rfl := Option.some.inj h
    refine Q30.wire_Text.calls a0 _ w ?_
    have h1 := lebPut_length_le (a0.size : Int)
    unfold Q30.wire_Text.f
    rw [put_n _ hg]
    try simp only [Option.bind_some]
    rw [if_pos (by omega)]
    rfl
  · cases h
theorem secateurref03_Text.calls (a0 : ByteArray) (r : List Int) (w : World) (h : secateurref03_Text.f a0 = some r) :
    Calls Tryd.prog 23 #[.string a0] w fun e w' => ∃ v0_ : Value, e = .returned (v0_) ∧ Kd.R (Kd.int .u8) 5 w' w.heap.size (fun _ => True) v0_ r ∧ Below w.heap.size w w' := by
  unfold secateurref03_Text.f at h
  split at h
  · rename_i hg
    obtain rfl := Option.some.inj h
    refine Q30.secateurref03_Text.calls a0 _ w ?_
    have h1 := lebPut_length_le (a0.size : Int)
    unfold Q30.secateurref03_Text.f
    rw [show secateurref01_Put.f (IntKind.u64.wrap (a0.size : Int)) = _ from put_n _ hg]
    try simp only [Option.bind_some]
    rw [if_pos (by omega)]
    rfl
  · cases h
theorem wire_Section.calls (a0 : Int) (A1 : Option Addr) (c1 : Nat) (l1 : List Int) (r : List Int) (w : World) (hr1 : Kd.C (Kd.int .u8) w A1 l1.length l1) (hc1 : l1.length ≤ c1) (hGCrcTab : CrcTab w) (h : wire_Section.f a0 l1 = some r) :
    Calls Tryd.prog 17 #[.int .u8 a0, .slice A1 l1.length c1] w fun e w' => ∃ v0_ : Value, e = .returned (v0_) ∧ Kd.R (Kd.int .u8) 5 w' w.heap.size (fun _ => True) v0_ r ∧ Below w.heap.size w w' := by
  unfold wire_Section.f at h
  split at h
  · rename_i hg
    obtain rfl := Option.some.inj h
    refine Q30.wire_Section.calls a0 A1 c1 l1 _ w hr1 hc1 hGCrcTab ?_
    have h1 := lebPut_length_le (l1.length : Int)
    have h2 := sealL_len l1
    unfold Q30.wire_Section.f crc_Seal.f
    rw [put_n _ hg.2, if_pos ⟨hg.1, by omega⟩]
    try simp only [Option.bind_some]
    rw [if_pos (by simp only [List.length_cons, List.length_nil]; omega)]
    try simp only [Option.bind_some]
    rw [if_pos (by simp only [List.length_cons, List.length_nil, List.length_append]; omega)]
    rfl
  · cases h
theorem secateurref03_Section.calls (a0 : Int) (A1 : Option Addr) (c1 : Nat) (l1 : List Int) (r : List Int) (w : World) (hr1 : Kd.C (Kd.int .u8) w A1 l1.length l1) (hc1 : l1.length ≤ c1) (h : secateurref03_Section.f a0 l1 = some r) :
    Calls Tryd.prog 24 #[.int .u8 a0, .slice A1 l1.length c1] w fun e w' => ∃ v0_ : Value, e = .returned (v0_) ∧ Kd.R (Kd.int .u8) 5 w' w.heap.size (fun _ => True) v0_ r ∧ Below w.heap.size w w' := by
  unfold secateurref03_Section.f at h
  split at h
  · rename_i hg
    obtain rfl := Option.some.inj h
    refine Q30.secateurref03_Section.calls a0 A1 c1 l1 _ w hr1 hc1 ?_
    have h1 := lebPut_length_le (l1.length : Int)
    have h2 := sealL_len l1
    unfold Q30.secateurref03_Section.f
    rw [show secateurref01_Put.f (IntKind.u64.wrap (l1.length : Int)) = _ from put_n _ hg.2, show secateurref02_Seal.f l1 = some (sealL l1) by unfold secateurref02_Seal.f crc_Seal.f; rw [if_pos ⟨hg.1, by omega⟩]]
    try simp only [Option.bind_some]
    rw [if_pos (by simp only [List.length_cons, List.length_nil]; omega)]
    try simp only [Option.bind_some]
    rw [if_pos (by simp only [List.length_cons, List.length_nil, List.length_append]; omega)]
    rfl
  · cases h
end Go.Proofs.YtmlbfepibfobaaaDoor.Hand
end

section
namespace Go.Proofs.YtmlbfepibfobaaaDoor.Hand
open Go.RowKit Go.Proofs.YtmlbfepibfobaaaDoorW.PrintWords Go.Proofs.YtmlbfepibfobaaaDoorW.PrintLast
theorem sumBytes_bytes (l : List Int) : (sumBytes (crcSum l)).all byteB = true := by
  have := crcSum_range l
  simp only [sumBytes, List.all_cons, List.all_nil, Bool.and_true, Bool.and_eq_true, byteB_iff]
  omega
theorem sealL_bytes {l : List Int} (h : l.all byteB = true) : (sealL l).all byteB = true := by
  rw [sealL, List.all_append, h, sumBytes_bytes]; rfl
theorem openL_sealL (l : List Int) : openL (sealL l) = (l, 0) := by
  have hl : (sealL l).length = l.length + 4 := by simp [sealL, sumBytes]
  have hd : (sealL l).drop l.length = sumBytes (crcSum l) := by simp [sealL]
  have ht : (sealL l).take l.length = l := by simp [sealL]
  unfold openL
  rw [if_neg (by omega), show (sealL l).length - 4 = l.length by omega, hd, ht, if_pos rfl]
theorem sealL_openL {l : List Int} (h : (openL l).2 = 0) : sealL (openL l).1 = l := by
  unfold openL at h ⊢
  split at h
  · simp at h
  · rename_i h4
    rw [if_neg h4]
    split at h
    · rename_i h5
      rw [if_pos h5]
      show l.take _ ++ sumBytes _ = l
      rw [← h5, List.take_append_drop]
    · simp at h
theorem openL_bytes {l : List Int} (h : l.all byteB = true) : (openL l).1.all byteB = true ∧ (openL l).1.length ≤ l.length := by
  unfold openL
  split
  · exact ⟨rfl, Nat.zero_le _⟩
  · split
    · exact ⟨List.all_eq_true.2 (fun x hx => List.all_eq_true.1 h x (List.mem_of_mem_take hx)), by simp⟩
    · exact ⟨rfl, Nat.zero_le _⟩
theorem sealL_length (l : List Int) : (sealL l).length = l.length + 4 := by simp [sealL, sumBytes]
end Go.Proofs.YtmlbfepibfobaaaDoor.Hand
end

section
namespace Go.Proofs.YtmlbfepibfobaaaDoor.Hand
open Go.RowKit Go.Proofs.YtmlbfepibfobaaaDoorW.PrintWords Go.Proofs.YtmlbfepibfobaaaDoorW.PrintLast
set_option linter.unusedVariables false
set_option linter.unusedSimpArgs false

/-- The state behind some words. -/
def crcX (s : B32) : List B32 → B32
  | [] => s
  | x :: l => crcX (bit8 (s ^^^ x)) l
theorem crcAdd_X (s : B32) (l : List Int) : crcAdd s l = crcX s (l.map (BitVec.ofInt 32)) := by
  induction l generalizing s with
  | nil => rfl
  | cons x l ih => exact ih _
theorem crcX_xor (s t : B32) : ∀ (x y : List B32), x.length = y.length → crcX s x ^^^ crcX t y = crcX (s ^^^ t) (List.zipWith (· ^^^ ·) x y)
  | [], [], _ => rfl
  | a :: x, b :: y, h => by
    show crcX _ x ^^^ crcX _ y = crcX _ (List.zipWith (· ^^^ ·) x y)
    rw [crcX_xor _ _ x y (by simpa using h), ← bit8_xor, xor4]
  | [], _ :: _, h => by simp at h
  | _ :: _, [], h => by simp at h
theorem bit8_inj {a b : B32} (h : bit8 a = bit8 b) : a = b := by
  have h1 : bit8 (a ^^^ b) = 0#32 := by rw [bit8_xor, h, BitVec.xor_self]
  have h2 := bit8_inj0 _ h1
  have h3 : a ^^^ b ^^^ b = 0#32 ^^^ b := by rw [h2]
  rwa [BitVec.xor_assoc, BitVec.xor_self, BitVec.xor_zero, BitVec.zero_xor] at h3
def Bn (n : Nat) (p : B32) : Prop := ∀ i, n ≤ i → p.getLsbD i = false
theorem Bn.shl {n : Nat} {p : B32} (h : Bn n p) : Bn (n + 8) (p <<< 8) := fun i hi => by
  rw [BitVec.getLsbD_shiftLeft, h (i - 8) (by omega), Bool.and_false]
theorem Bn.mono {n m : Nat} {p : B32} (h : Bn n p) (hm : n ≤ m) : Bn m p := fun i hi => h i (by omega)
theorem Bn.xor {n : Nat} {p q : B32} (h : Bn n p) (k : Bn n q) : Bn n (p ^^^ q) := fun i hi => by rw [BitVec.getLsbD_xor, h i hi, k i hi]; rfl
theorem shl_low {v : B32} {i : Nat} (h : i < 8) : (v <<< 8).getLsbD i = false := by
  rw [BitVec.getLsbD_shiftLeft, decide_eq_true h, Bool.not_true, Bool.and_false, Bool.false_and]
theorem shl_high {v : B32} {i : Nat} (h : i < 24) : (v <<< 8).getLsbD (i + 8) = v.getLsbD i := by
  rw [BitVec.getLsbD_shiftLeft, decide_eq_true (show i + 8 < 32 by omega), decide_eq_false (show ¬ i + 8 < 8 by omega)]
  simp
theorem shl_split {p v : B32} (hp : Bn 8 p) (hv : Bn 24 v) (h : p = v <<< 8) : p = 0#32 ∧ v = 0#32 := by
  constructor
  · apply BitVec.eq_of_getLsbD_eq
    intro i hi
    rw [BitVec.getLsbD_zero]
    by_cases h8 : i < 8
    · rw [h, shl_low h8]
    · exact hp i (by omega)
  · apply BitVec.eq_of_getLsbD_eq
    intro i hi
    rw [BitVec.getLsbD_zero]
    by_cases h8 : i < 24
    · rw [← shl_high h8, ← h]; exact hp _ (by omega)
    · exact hv i (by omega)
theorem bit8_shl {v : B32} (hv : Bn 24 v) : bit8 (v <<< 8) = v := by
  unfold bit8
  rw [bit4_high (v <<< 8) ⟨shl_low (by omega), shl_low (by omega), shl_low (by omega), shl_low (by omega)⟩, bit4_high]
  · apply BitVec.eq_of_getLsbD_eq
    intro i hi
    rw [BitVec.getLsbD_ushiftRight, BitVec.getLsbD_ushiftRight]
    by_cases h8 : i < 24
    · rw [show 4 + (4 + i) = i + 8 by omega, shl_high h8]
    · rw [hv i (by omega), BitVec.getLsbD_of_ge _ _ (by omega)]
  · refine ⟨?_, ?_, ?_, ?_⟩ <;> (rw [BitVec.getLsbD_ushiftRight]; exact shl_low (by omega))
theorem xor_eq0 {a b : B32} (h : a ^^^ b = 0#32) : a = b := by
  have h3 : a ^^^ b ^^^ b = 0#32 ^^^ b := by rw [h]
  rwa [BitVec.xor_assoc, BitVec.xor_self, BitVec.xor_zero, BitVec.zero_xor] at h3
theorem xor_move {a b c : B32} (h : a ^^^ b = c) : a = b ^^^ c := by
  rw [← h, BitVec.xor_comm a b, ← BitVec.xor_assoc, BitVec.xor_self, BitVec.zero_xor]
theorem crc_four_zero {a b c e : B32} (ha : Bn 8 a) (hb : Bn 8 b) (hc : Bn 8 c) (he : Bn 8 e) (h : bit8 (bit8 (bit8 (bit8 a ^^^ b) ^^^ c) ^^^ e) = 0#32) : a = 0#32 ∧ b = 0#32 ∧ c = 0#32 ∧ e = 0#32 := by
  have h1 : bit8 (bit8 (bit8 a ^^^ b) ^^^ c) = bit8 (e <<< 8) := by rw [bit8_shl (he.mono (by omega))]; exact xor_eq0 (bit8_inj0 _ h)
  have h2 : bit8 (bit8 a ^^^ b) = c ^^^ e <<< 8 := xor_move (bit8_inj h1)
  have b2 : Bn 16 (c ^^^ e <<< 8) := (hc.mono (by omega)).xor he.shl
  have h3 : bit8 (bit8 a ^^^ b) = bit8 ((c ^^^ e <<< 8) <<< 8) := by rw [bit8_shl (b2.mono (by omega))]; exact h2
  have h4 : bit8 a = b ^^^ (c ^^^ e <<< 8) <<< 8 := xor_move (bit8_inj h3)
  have b4 : Bn 24 (b ^^^ (c ^^^ e <<< 8) <<< 8) := (hb.mono (by omega)).xor b2.shl
  have h5 : a = (b ^^^ (c ^^^ e <<< 8) <<< 8) <<< 8 := bit8_inj (by rw [bit8_shl b4]; exact h4)
  obtain ⟨q1, q2⟩ := shl_split ha b4 h5
  obtain ⟨q3, q4⟩ := shl_split hb (b2.mono (by omega)) (xor_eq0 q2)
  obtain ⟨q5, q6⟩ := shl_split hc (he.mono (by omega)) (xor_eq0 q4)
  exact ⟨q1, q3, q5, q6⟩
theorem crcX_zeros {z : B32} : ∀ (l : List B32), (∀ x ∈ l, x = 0#32) → crcX z l = 0#32 → z = 0#32
  | [], _, h => h
  | x :: l, hx, h => by
    have h1 := crcX_zeros l (fun y hy => hx y (List.mem_cons_of_mem _ hy)) h
    rw [hx x List.mem_cons_self, BitVec.xor_zero] at h1
    exact bit8_inj0 _ h1
theorem crcX_win0 : ∀ (d : List B32), (∀ x ∈ d, Bn 8 x) → (∀ x ∈ d.drop 4, x = 0#32) → crcX 0#32 d = 0#32 → ∀ x ∈ d, x = 0#32
  | [], _, _, _ => by simp
  | [a], hb, _, h => by
    have h : bit8 (0#32 ^^^ a) = 0#32 := h
    rw [BitVec.zero_xor] at h
    simpa using bit8_inj0 _ h
  | [a, b], hb, _, h => by
    have h : bit8 (bit8 (0#32 ^^^ a) ^^^ b) = 0#32 := h
    rw [BitVec.zero_xor] at h
    have z : Bn 8 0#32 := fun i _ => BitVec.getLsbD_zero
    obtain ⟨q1, q2, _⟩ := crc_four_zero (hb a (by simp)) (hb b (by simp)) z z (by rw [h]; decide)
    simp [q1, q2]
  | [a, b, c], hb, _, h => by
    have h : bit8 (bit8 (bit8 (0#32 ^^^ a) ^^^ b) ^^^ c) = 0#32 := h
    rw [BitVec.zero_xor] at h
    have z : Bn 8 0#32 := fun i _ => BitVec.getLsbD_zero
    obtain ⟨q1, q2, q3, _⟩ := crc_four_zero (hb a (by simp)) (hb b (by simp)) (hb c (by simp)) z (by rw [h]; decide)
    simp [q1, q2, q3]
  | a :: b :: c :: e :: r, hb, hz, h => by
    have h : crcX (bit8 (bit8 (bit8 (bit8 (0#32 ^^^ a) ^^^ b) ^^^ c) ^^^ e)) r = 0#32 := h
    rw [BitVec.zero_xor] at h
    have hz : ∀ x ∈ r, x = 0#32 := by simpa using hz
    obtain ⟨q1, q2, q3, q4⟩ := crc_four_zero (hb a (by simp)) (hb b (by simp)) (hb c (by simp)) (hb e (by simp)) (crcX_zeros r hz h)
    intro x hx
    simp only [List.mem_cons] at hx
    rcases hx with rfl | rfl | rfl | rfl | hx
    · exact q1
    · exact q2
    · exact q3
    · exact q4
    · exact hz x hx
theorem crcX_win : ∀ (n : Nat) (d : List B32), (∀ x ∈ d, Bn 8 x) → (∀ x ∈ d.take n, x = 0#32) → (∀ x ∈ d.drop (n + 4), x = 0#32) → crcX 0#32 d = 0#32 → ∀ x ∈ d, x = 0#32
  | 0, d, hb, _, hz, h => crcX_win0 d hb (by simpa using hz) h
  | n + 1, [], _, _, _, _ => by simp
  | n + 1, y :: d, hb, h0, hz, h => by
    have hy : y = 0#32 := h0 y (by simp)
    subst hy
    have h : crcX (bit8 (0#32 ^^^ 0#32)) d = 0#32 := h
    rw [BitVec.xor_self, bit8_zero] at h
    have := crcX_win n d (fun x hx => hb x (List.mem_cons_of_mem _ hx)) (fun x hx => h0 x (by simp [hx])) (fun x hx => hz x (by rw [show n + 1 + 4 = (n + 4) + 1 by omega]; simpa using hx)) h
    intro x hx
    rcases List.mem_cons.1 hx with rfl | hx
    · rfl
    · exact this x hx
theorem wu8 {x : Int} (h0 : 0 ≤ x) (h1 : x < 256) : IntKind.u8.wrap x = x := by
  simp [IntKind.wrap, IntKind.bits, IntKind.signed]
  omega
theorem toNat8 {a : Int} (h : byteB a = true) : (BitVec.ofInt 8 a).toNat = a.toNat := by
  have := byteB_iff.1 h
  rw [BitVec.toNat_ofInt]
  have : ((2 ^ 8 : Nat) : Int) = 256 := by decide
  rw [this]
  omega
theorem toNat32 {a : Int} (h : byteB a = true) : (BitVec.ofInt 32 a).toNat = a.toNat := by
  have := byteB_iff.1 h
  have h2 := toNat_of (a := a) (by omega) (by omega)
  omega
theorem u8_xor_val {a b : Int} (ha : byteB a = true) (hb : byteB b = true) : Go.bits .xor .u8 a b = ((a.toNat ^^^ b.toNat : Nat) : Int) ∧ a.toNat ^^^ b.toNat < 256 := by
  have e : (BitVec.ofInt 8 a ^^^ BitVec.ofInt 8 b).toNat = a.toNat ^^^ b.toNat := by rw [BitVec.toNat_xor, toNat8 ha, toNat8 hb]
  have hlt : (BitVec.ofInt 8 a ^^^ BitVec.ofInt 8 b).toNat < 256 := (BitVec.ofInt 8 a ^^^ BitVec.ofInt 8 b).isLt
  rw [e] at hlt
  refine ⟨?_, hlt⟩
  show IntKind.u8.wrap ((BitVec.ofInt 8 a ^^^ BitVec.ofInt 8 b).toNat : Int) = _
  rw [e]
  exact wu8 (by omega) (by omega)
theorem u8_xor_byte {a b : Int} (ha : byteB a = true) (hb : byteB b = true) : byteB (Go.bits .xor .u8 a b) = true := by
  obtain ⟨h, h2⟩ := u8_xor_val ha hb
  rw [h, byteB_iff]
  omega
theorem u8_xor_32 {a b : Int} (ha : byteB a = true) (hb : byteB b = true) : BitVec.ofInt 32 (Go.bits .xor .u8 a b) = BitVec.ofInt 32 a ^^^ BitVec.ofInt 32 b := by
  apply BitVec.eq_of_toNat_eq
  rw [toNat32 (u8_xor_byte ha hb), BitVec.toNat_xor, toNat32 ha, toNat32 hb, (u8_xor_val ha hb).1]
  omega
theorem Bn_byte {a : Int} (h : byteB a = true) : Bn 8 (BitVec.ofInt 32 a) := fun i hi => by
  have h1 := byteB_iff.1 h
  show (BitVec.ofInt 32 a).toNat.testBit i = false
  rw [toNat32 h]
  exact Nat.testBit_lt_two_pow (Nat.lt_of_lt_of_le (show a.toNat < 2 ^ 8 by omega) (Nat.pow_le_pow_right (by omega) hi))
theorem getD_byte {l : List Int} (h : l.all byteB = true) (j : Nat) : byteB (l.getD j 0) = true := by
  rw [List.getD_eq_getElem?_getD]
  cases hx : l[j]? with
  | none => decide
  | some x => exact List.all_eq_true.1 h x (List.mem_of_getElem? hx)
theorem set_xor_zip (d : B32) : ∀ (l l2 : List B32) (j : Nat), j < l.length → l2 = l.set j (l.getD j 0 ^^^ d) → List.zipWith (· ^^^ ·) l2 l = (List.replicate l.length 0#32).set j d
  | [], _, j, h, _ => absurd h (Nat.not_lt_zero _)
  | a :: l, _, 0, _, e => by
    subst e
    simp only [List.set_cons_zero, List.getD_cons_zero, List.zipWith_cons_cons, List.length_cons, List.replicate_succ]
    rw [BitVec.xor_comm, ← BitVec.xor_assoc, BitVec.xor_self, BitVec.zero_xor]
    congr 1
    induction l with
    | nil => rfl
    | cons b l ih =>
      have ih' := ih (by simp)
      simp only [List.zipWith_cons_cons, BitVec.xor_self, List.length_cons, List.replicate_succ]
      rw [ih']
  | a :: l, _, j + 1, h, e => by
    subst e
    simp only [List.set_cons_succ, List.getD_cons_succ, List.zipWith_cons_cons, List.length_cons, List.replicate_succ, BitVec.xor_self]
    rw [set_xor_zip d l _ j (by simpa using h) rfl]
/-- Bytes of which one is another one have another sum. -/
theorem sum_flip (l : List Int) (j : Nat) (y : Int) (hl : l.all byteB = true) (hj : j < l.length) (hy : byteB y = true) (h0 : y ≠ 0) : crcSum (l.set j (Go.bits .xor .u8 (l.getD j 0) y)) ≠ crcSum l := by
  intro h
  have hm : (l.set j (Go.bits .xor .u8 (l.getD j 0) y)).map (BitVec.ofInt 32) = (l.map (BitVec.ofInt 32)).set j ((l.map (BitVec.ofInt 32)).getD j 0 ^^^ BitVec.ofInt 32 y) := by
    rw [List.map_set, u8_xor_32 (getD_byte hl j) hy]
    congr 1
    rw [List.getD_eq_getElem?_getD, List.getD_eq_getElem?_getD, List.getElem?_map, List.getElem?_eq_getElem hj]
    rfl
  have hz := set_xor_zip (BitVec.ofInt 32 y) (l.map (BitVec.ofInt 32)) _ j (by simpa using hj) hm
  have h1 : (~~~ crcAdd (BitVec.allOnes 32) (l.set j (Go.bits .xor .u8 (l.getD j 0) y))).toNat = (~~~ crcAdd (BitVec.allOnes 32) l).toNat := by
    unfold crcSum at h
    omega
  have h2 := BitVec.eq_of_toNat_eq h1
  have h3 : crcAdd (BitVec.allOnes 32) (l.set j (Go.bits .xor .u8 (l.getD j 0) y)) = crcAdd (BitVec.allOnes 32) l := by rw [← BitVec.not_not (b := crcAdd (BitVec.allOnes 32) (l.set j (Go.bits .xor .u8 (l.getD j 0) y))), h2, BitVec.not_not]
  have hD : crcAdd (BitVec.allOnes 32) (l.set j (Go.bits .xor .u8 (l.getD j 0) y)) ^^^ crcAdd (BitVec.allOnes 32) l = crcX 0#32 ((List.replicate l.length 0#32).set j (BitVec.ofInt 32 y)) := by
    rw [crcAdd_X, crcAdd_X, crcX_xor _ _ _ _ (by simp), hz, BitVec.xor_self, List.length_map]
  rw [h3, BitVec.xor_self] at hD
  have hw := crcX_win j _ (by
    intro x hx
    rcases List.mem_or_eq_of_mem_set hx with h | rfl
    · rw [List.eq_of_mem_replicate h]; intro i hi; simp
    · exact Bn_byte hy) (by
    intro x hx
    rw [List.take_set_of_le (Nat.le_refl j)] at hx
    exact List.eq_of_mem_replicate (List.mem_of_mem_take hx)) (by
    intro x hx
    rw [List.drop_set_of_lt (by omega)] at hx
    exact List.eq_of_mem_replicate (List.mem_of_mem_drop hx)) hD.symm (BitVec.ofInt 32 y) (List.mem_set (by simpa using hj) _)
  have := congrArg BitVec.toNat hw
  rw [toNat32 hy] at this
  have hb := byteB_iff.1 hy
  simp at this
  omega
end Go.Proofs.YtmlbfepibfobaaaDoor.Hand
end

section
namespace Go.Proofs.YtmlbfepibfobaaaDoor.Hand
open Go.RowKit Go.Proofs.YtmlbfepibfobaaaDoorW.PrintWords Go.Proofs.YtmlbfepibfobaaaDoorW.PrintLast Go.Proofs.YtmlbfepibfobaaaDoorW.PrintMore
set_option linter.unusedVariables false
set_option linter.unusedSimpArgs false

theorem R_store {W : World} {base : Nat} {ok : Nat → Prop} {c : Nat} {ad : Addr} {l : List Int} (h : Kd.R (Kd.int .u8) 5 W base ok (.slice (some ad) l.length c) l) (i : Nat) (hi : i < l.length) :
    base ≤ ad.block ∧ ad.block < W.heap.size ∧ W.cell? (ad.add i) = some (.int .u8 (l.getD i 0)) ∧ W.frozen? (ad.add i) = false ∧ ∀ x, Kd.C (Kd.int .u8) (W.setCell (ad.add i) (.int .u8 x)) (some ad) l.length (l.set i x) := by
  obtain ⟨g, rfl⟩ := Kd.R_head h
  have hC := (Kd.R_reads' h).2.2
  have hR := Kd.reads_of_C (d := (0 : Int)) hC
  obtain ⟨cells, hc⟩ := own_typed (Kd.R_own h).choose_spec g (by simp [Value.ownBlock])
  have e : ∀ j, (⟨g, 0, none⟩ : Addr).add j = ⟨g, j, none⟩ := fun j => by simp [Addr.add]; intro h0; exact h0.symm
  have hcell : ∀ j, j < l.length → W.cell? ((⟨g, 0, none⟩ : Addr).add j) = some (.int .u8 (l.getD j 0)) := fun j hj => by
    obtain ⟨ad, had, hcell⟩ := ReadsOf.at_ hR (j : Int) (by omega) (by omega)
    cases had
    rw [Int.toNat_natCast] at hcell
    exact hcell
  refine ⟨Kd.R_base h g (by simp [Value.ownBlock]), Kd.R_lt h g (by simp [Value.ownBlock]), hcell i hi, by rw [e]; exact blk_frozen hc i, fun x => ?_⟩
  have hl : (l.set i x).length = l.length := List.length_set ..
  rw [← hl]
  refine Kd.C_of_reads (d := (0 : Int)) (h1 := fun _ => rfl) ⟨rfl, by rw [hl]; exact hR.2.1, fun _ => ⟨_, rfl, fun j hj => ?_⟩⟩
  rw [hl] at hj
  by_cases hij : j = i
  · subst hij
    rw [World.cell?_setCell_same _ _ _ (hcell j hj)]
    simp [List.getD_eq_getElem?_getD, hj]
  · rw [World.cell?_setCell_other _ _ _ _ (by rw [e, e]; intro h; cases h; exact hij rfl), hcell j hj]
    rw [List.getD_eq_getElem?_getD, List.getD_eq_getElem?_getD, List.getElem?_set_ne (Ne.symm hij)]
/-- A section's bytes with any body. -/
def sectB (id : Int) (n : Nat) (body : List Int) : List Int := [id] ++ lebPut (n : Int) ++ body
theorem sectW_B (id : Int) (l : List Int) : sectW id l = sectB id l.length (sealL l) := rfl
theorem put_pos (n : Int) : 0 < (lebPut n).length := lebTail_length_pos 10 n (by omega)
theorem sectB_len (id : Int) (n : Nat) (body : List Int) : (sectB id n body).length = 1 + (lebPut (n : Int)).length + body.length := by simp [sectB]; omega
theorem sectB_id (id : Int) (n : Nat) (body : List Int) : (sectB id n body).getD 0 0 = id := rfl
theorem sectB_num (id : Int) (n : Nat) (hn : n < 18446744073709551616) (body : List Int) : lebTake ((sectB id n body).take (sectB id n body).length) ((0 + 1 : Nat) : Int) = (((n : Nat) : Int), ((1 + (lebPut (n : Int)).length : Nat) : Int), 0) := by
  rw [List.take_length]
  have := lebTake_put (n : Int) (u64B_iff.2 ⟨by omega, by omega⟩) [id] body
  simp only [List.length_cons, List.length_nil] at this
  unfold sectB
  rw [this]
  simp
theorem sectB_cut (id : Int) (n : Nat) (body : List Int) (k : Nat) (hk : body.length = k) : cutN (sectB id n body) (1 + (lebPut (n : Int)).length) k = body := by
  unfold cutN sectB
  rw [List.take_of_length_le (by simp; omega), List.append_assoc, ← List.append_assoc, List.drop_left' (by simp; omega)]
theorem sumBytes_inj {s t : Int} (hs : 0 ≤ s ∧ s < 4294967296) (ht : 0 ≤ t ∧ t < 4294967296) (h : sumBytes s = sumBytes t) : s = t := by
  simp [sumBytes] at h
  omega
theorem openL_other (b s : List Int) (h : crcSum b ≠ crcSum s) : (openL (b ++ sumBytes (crcSum s))).2 = 4 := by
  have hl : (b ++ sumBytes (crcSum s)).length = b.length + 4 := by simp [sumBytes]
  unfold openL
  rw [if_neg (by omega), hl, Nat.add_sub_cancel, List.drop_left, List.take_left, if_neg (fun e => h (sumBytes_inj (crcSum_range _) (crcSum_range _) e).symm)]
theorem sectW_set (id : Int) (l : List Int) (j : Nat) (y : Int) (hj : j < l.length) : (sectW id l).set (1 + (lebPut (l.length : Int)).length + j) y = sectB id l.length (l.set j y ++ sumBytes (crcSum l)) := by
  unfold sectW sectB sealL
  rw [List.set_append_right _ _ (by simp; omega), List.set_append_left _ _ (by simp; omega)]
  congr 3
  simp
  omega
theorem sectW_getD (id : Int) (l : List Int) (j : Nat) (hj : j < l.length) : (sectW id l).getD (1 + (lebPut (l.length : Int)).length + j) 0 = l.getD j 0 := by
  have h1 : ([id] ++ lebPut (l.length : Int)).length ≤ 1 + (lebPut (l.length : Int)).length + j := by simp; omega
  have h2 : 1 + (lebPut (l.length : Int)).length + j - ([id] ++ lebPut (l.length : Int)).length = j := by simp; omega
  unfold sectW sealL
  rw [List.getD_eq_getElem?_getD, List.getD_eq_getElem?_getD, List.getElem?_append_right h1, h2, List.getElem?_append_left hj]
theorem sectB_bytes {id : Int} (hid : byteB id = true) (n : Nat) {body : List Int} (hb : body.all byteB = true) : (sectB id n body).all byteB = true := by
  unfold sectB
  rw [List.all_append, List.all_append, hb, Bool.and_true]
  have h1 : (lebPut (n : Int)).all byteB = true := lebPut_bytes (n : Int)
  rw [h1]
  simp [hid]
theorem fault_eq (a b a' b' : Int) (w : World) : (binOp .eql 31 (.agg #[.int .i64 a, .int .i64 b]) (.agg #[.int .i64 a', .int .i64 b'])).run Tryd.prog w = .ok (.bool ((a == a') && (b == b'))) w := by
  have h : (Op.equalIn 10000 31 (.agg #[.int .i64 a, .int .i64 b]) (.agg #[.int .i64 a', .int .i64 b'])).run Tryd.prog w = .ok ((a == a') && (b == b')) w := by
    refine eqA_of (d := 9999) Tryd.underlying31 (by kernel_rfl) ?_
    refine eqf_cons rfl (run_part_plain w (by kernel_rfl) rfl) (run_part_plain w (by kernel_rfl) rfl) (run_equalIn_int w 9998 29 .i64 .i64 a a' Tryd.underlying29) ?_
    exact eqf_last rfl (run_part_plain w (by kernel_rfl) rfl) (run_part_plain w (by kernel_rfl) rfl) (run_equalIn_int w 9998 3 .i64 .i64 b b' Tryd.underlying3)
  rw [run_eql_struct, h]
  rfl
end Go.Proofs.YtmlbfepibfobaaaDoor.Hand
end

section
namespace Go.Proofs.YtmlbfepibfobaaaDoor.Hand
open Go.RowKit Go.Proofs.YtmlbfepibfobaaaDoorW.PrintWords Go.Proofs.YtmlbfepibfobaaaDoorW.PrintLast Go.Proofs.YtmlbfepibfobaaaDoorW.PrintMore
set_option linter.unusedVariables false
set_option linter.unusedSimpArgs false

/-- What WireBack writes. -/
def backB (s : ByteArray) (n k : Int) : List Int := textW s ++ lebPut n ++ lebPut (zigI k)
theorem str_bytes (s : ByteArray) : strOfNums (bytesOf s) = s := by
  unfold strOfNums bytesOf
  rw [List.map_map, show s.data.toList.map ((fun n => UInt8.ofNat (Int.toNat n)) ∘ fun b => ((b.toNat : Nat) : Int)) = s.data.toList.map id from List.map_congr_left fun b _ => by simp, List.map_id]
theorem take_mid {l p q : List Int} {m ix : Nat} {v : Int} (h : l.take m = p ++ lebPut v ++ q) (hp : p.length = ix) (hv : u64B v = true) : lebTake (l.take m) (ix : Int) = (v, ((ix + (lebPut v).length : Nat) : Int), 0) := by
  rw [h, ← hp]
  have := lebTake_put v hv p q
  rw [this]
  simp
theorem cut_mid' {l p x q : List Int} {ix n : Nat} (h : l = p ++ x ++ q) (hp : p.length = ix) (hx : x.length = n) : cutN l ix n = x := by
  subst h
  unfold cutN
  rw [List.take_left' (by simp; omega), List.drop_left' hp]
theorem bytesB (s : ByteArray) : (bytesOf s).all byteB = true := by
  refine List.all_eq_true.2 fun x hx => ?_
  obtain ⟨b, _, rfl⟩ := List.mem_map.1 hx
  have := b.toNat_lt
  exact byteB_iff.2 ⟨by omega, by omega⟩
set_option maxHeartbeats 8000000 in
set_option maxRecDepth 100000 in
theorem WireBack_go (s : ByteArray) (n k : Int) (w : World) (hs : s.size ≤ 64) (hn : 0 ≤ n ∧ n < 65536) (hk : -9223372036854775808 ≤ k ∧ k < 9223372036854775808) (hG : CrcTab w) :
    Calls Tryd.prog 5 #[.string s, .int .u16 n, .int .i64 k] w fun e w' => e = .returned (.bool true) ∧ Below w.heap.size w w' := by
  have hz := zig_range k hk.1 hk.2
  have hbl : (backB s n k).length = (lebPut (s.size : Int)).length + s.size + (lebPut n).length + (lebPut (zigI k)).length := by simp [backB, textW, bytesOf_length]; omega
  have hp1 := lebPut_length_le (s.size : Int)
  have hp2 := lebPut_length_le n
  have hp3 := lebPut_length_le (zigI k)
  have hbb : (backB s n k).all byteB = true := by unfold backB textW; rw [List.all_append, List.all_append, List.all_append, lebPut_bytes, lebPut_bytes, lebPut_bytes, bytesB]; rfl
  obtain ⟨b, hb⟩ : ∃ b, b = backB s n k := ⟨_, rfl⟩
  obtain ⟨r, hr⟩ : ∃ r, r = sectW 5 b := ⟨_, rfl⟩
  have hp0 := lebPut_length_le (b.length : Int)
  obtain ⟨q, hq⟩ : ∃ q, q = 1 + (lebPut (b.length : Int)).length := ⟨_, rfl⟩
  have hrB : r = sectB 5 b.length (sealL b) := by rw [hr, sectW_B]
  have hrl : r.length = q + (b.length + 4) := by rw [hrB, sectB_len, sealL_len, hq]
  have hrb : r.all byteB = true := by rw [hrB]; exact sectB_bytes (by decide) _ (sealL_bytes (by rw [hb]; exact hbb))
  have hri : r.getD 0 0 = 5 := by rw [hrB]; rfl
  have hrt : lebTake (r.take r.length) ((0 + 1 : Nat) : Int) = ((b.length : Int), ((q : Nat) : Int), 0) := by rw [hrB, hb, sectB_num 5 _ (by omega), hq, hb]
  have hro : (openL (cutN r q (b.length + 4))).2 = 0 := by rw [hrB, hq, sectB_cut 5 _ _ _ (sealL_len b), openL_sealL]
  have hT : r.take (q + b.length) = [5] ++ lebPut (b.length : Int) ++ b := by
    rw [hr]
    unfold sectW sealL
    rw [← List.append_assoc, List.take_left' (by simp; omega)]
  have hr3 : r = ([5] ++ lebPut (b.length : Int) ++ lebPut (s.size : Int)) ++ bytesOf s ++ (lebPut n ++ lebPut (zigI k) ++ sumBytes (crcSum b)) := by
    rw [hr]
    unfold sectW sealL
    have e : b ++ sumBytes (crcSum b) = (lebPut (s.size : Int) ++ bytesOf s ++ lebPut n ++ lebPut (zigI k)) ++ sumBytes (crcSum b) := by rw [show b = lebPut (s.size : Int) ++ bytesOf s ++ lebPut n ++ lebPut (zigI k) from hb]
    rw [e]
    simp only [List.append_assoc]
  have hTb : r.take (q + b.length) = [5] ++ lebPut (b.length : Int) ++ (lebPut (s.size : Int) ++ bytesOf s ++ lebPut n ++ lebPut (zigI k)) := by rw [hT]; congr 1
  have H1 : lebTake (r.take (q + b.length)) (q : Int) = (((s.size : Nat) : Int), ((q + (lebPut (s.size : Int)).length : Nat) : Int), 0) := take_mid (p := [5] ++ lebPut (b.length : Int)) (q := bytesOf s ++ lebPut n ++ lebPut (zigI k)) (by rw [hTb]; simp only [List.append_assoc]) (by rw [hq]; simp; omega) (u64B_iff.2 ⟨by omega, by omega⟩)
  obtain ⟨i1, hi1⟩ : ∃ i, i = q + (lebPut (s.size : Int)).length := ⟨_, rfl⟩
  rw [← hi1] at H1
  have H2 : cutN r i1 s.size = bytesOf s := cut_mid' hr3 (by rw [hi1, hq]; simp; omega) (bytesOf_length s)
  have H3 : lebTake (r.take (q + b.length)) ((i1 + s.size : Nat) : Int) = (n, ((i1 + s.size + (lebPut n).length : Nat) : Int), 0) := take_mid (p := [5] ++ lebPut (b.length : Int) ++ lebPut (s.size : Int) ++ bytesOf s) (q := lebPut (zigI k)) (by rw [hTb]; simp only [List.append_assoc]) (by rw [hi1, hq]; simp [bytesOf_length]; omega) (u64B_iff.2 ⟨by omega, by omega⟩)
  obtain ⟨i3, hi3⟩ : ∃ i, i = i1 + s.size + (lebPut n).length := ⟨_, rfl⟩
  rw [← hi3] at H3
  have H4 : lebTake (r.take (q + b.length)) (i3 : Int) = (zigI k, ((i3 + (lebPut (zigI k)).length : Nat) : Int), 0) := take_mid (p := [5] ++ lebPut (b.length : Int) ++ lebPut (s.size : Int) ++ bytesOf s ++ lebPut n) (q := []) (by rw [hTb]; simp only [List.append_assoc, List.append_nil]) (by rw [hi3, hi1, hq]; simp [bytesOf_length]; omega) (u64B_iff.2 ⟨by omega, by omega⟩)
  rw [show i3 + (lebPut (zigI k)).length = q + b.length by rw [hi3, hi1, hb, hbl]; omega] at H4
  have e64 : decide ((s.size : Int) > 64) = false := decide_eq_false (by omega)
  have e64' : decide (64 < (s.size : Int)) = false := decide_eq_false (by omega)
  have e64'' : decide (64 < s.size) = false := decide_eq_false (by omega)
  have hwn : IntKind.u64.wrap n = n := u64w (by omega) (by omega)
  have hwi : IntKind.i64.wrap n = n := IntWalk.i64_in _ ⟨by omega, by omega⟩
  have hm18 : n % 18446744073709551616 = n := Int.emod_eq_of_lt (by omega) (by omega)
  have HTx := Aside0.mk (fun W => wire_Text.calls s (textW s) W (by unfold wire_Text.f; rw [if_pos (by omega)]))
  have HPn := Aside0.mk (fun W => secateurref01_Put.calls n (lebPut n) W (by unfold secateurref01_Put.f leb_Put.f; rw [if_pos (by omega), if_pos (by omega)]))
  have HZg := Aside0.mk (fun W => secateurref01_Zig.calls k (zigI k) W (by unfold secateurref01_Zig.f leb_Zig.f; rw [if_pos hk]))
  have HPz := Aside0.mk (fun W => secateurref01_Put.calls (zigI k) (lebPut (zigI k)) W (by unfold secateurref01_Put.f leb_Put.f; rw [if_pos (by omega), if_pos (by omega)]))
  have hb71 : b.length ≤ 200 := by rw [hb, hbl]; omega
  have HSe : Aside0 (∀ A c W, Kd.C (Kd.int .u8) W A b.length b → b.length ≤ c → CrcTab W → Calls Tryd.prog 17 #[.int .u8 5, .slice A b.length c] W fun e w' => ∃ v0_ : Value, e = .returned (v0_) ∧ Kd.R (Kd.int .u8) 5 w' W.heap.size (fun _ => True) v0_ r ∧ Below W.heap.size W w') := ⟨fun A c W hC hc hG => wire_Section.calls 5 A c b r W hC hc hG (by unfold wire_Section.f; rw [if_pos ⟨by rw [hb]; exact hbb, by omega⟩, hr])⟩
  have HOp : Aside0 (∀ A c W, Kd.C (Kd.int .u8) W A r.length r → r.length ≤ c → Calls Tryd.prog 18 #[.slice A r.length c] W fun x w' => (∃ b A c, x = .returned (.pointer (some ⟨b, 0, none⟩)) ∧ W.heap.size ≤ b ∧ RdW w' b A c r r.length 0 0 0 ∧ RdF b A c r r.length ∧ ∀ ad, A = some ad → W.heap.size ≤ ad.block ∧ ad.block < w'.heap.size) ∧ Below W.heap.size W w') := ⟨fun A c W hC hc => wire_Open A c r W hC hc hrb (by omega)⟩
  have him : i1 + s.size ≤ q + b.length := by rw [hi1, hb, hbl]; omega
  obtain ⟨m, hm⟩ : ∃ m, m = q + b.length := ⟨_, rfl⟩
  rw [← hm] at H1 H3 H4
  have HRs : Aside0 (∀ g A c W, RdW W g A c r r.length 0 0 0 → RdF g A c r r.length → CrcTab W → Calls Tryd.prog 19 #[.pointer (some ⟨g, 0, none⟩), .int .u8 5] W fun x w' => (∃ B, x = .returned (.pointer (some ⟨B, 0, none⟩)) ∧ W.heap.size ≤ B ∧ RdW w' B A c r m q 0 0 ∧ RdF B A c r m) ∧ RdW w' g A c r r.length r.length 0 0 ∧ W.grownBy w' (some g)) := ⟨fun g A c W hr hf hG => by
    have := wire_Section_some g A c r r.length 0 0 W hr hf 5 hG (by omega) hri _ q hrt b.length rfl (by omega) (by omega) hro
    rw [← hm, ← hrl] at this
    exact this⟩
  have HQT : Aside0 (∀ g A c W, RdW W g A c r m q 0 0 → RdF g A c r m → Calls Tryd.prog 27 #[.pointer (some ⟨g, 0, none⟩)] W fun x w' => x = .returned (.string s) ∧ RdW w' g A c r m (i1 + s.size) 0 0 ∧ W.grownBy w' (some g)) := ⟨fun g A c W hr hf => by
    have := wire_Text_some g A c r m q 0 W hr hf _ i1 H1 s.size rfl hs (by rw [hm]; exact him)
    rw [H2, str_bytes] at this
    exact this⟩
  have HQN : Aside0 (∀ g A c W, RdW W g A c r m (i1 + s.size) 0 0 → RdF g A c r m → Calls Tryd.prog 28 #[.pointer (some ⟨g, 0, none⟩), .int .i64 65535] W fun x w' => x = .returned (.int .i64 n) ∧ RdW w' g A c r m i3 0 0 ∧ W.grownBy w' (some g)) := ⟨fun g A c W hr hf => wire_Num_some g A c r m _ 0 W hr hf n i3 H3 65535 (by omega) (by omega) (by omega)⟩
  have HQS : Aside0 (∀ g A c W, RdW W g A c r m i3 0 0 → RdF g A c r m → Calls Tryd.prog 29 #[.pointer (some ⟨g, 0, none⟩)] W fun x w' => x = .returned (.int .i64 k) ∧ RdW w' g A c r m m 0 0 ∧ W.grownBy w' (some g)) := ⟨fun g A c W hr hf => by
    have := wire_Signed_some g A c r m i3 0 W hr hf _ m H4 (by omega) (by omega)
    rw [zag_zig] at this
    exact this⟩
  have HG := Aside0.mk hG
  have hbe := Aside0.mk (show ((([] : List Int) ++ textW s) ++ lebPut n) ++ lebPut (zigI k) = b by rw [hb]; rfl)
  have hmr := Aside0.mk (show m ≠ r.length ∧ q ≤ m by omega)
  have hlt := Aside0.mk (show (textW s).length ≤ 200 by simp [textW, bytesOf_length]; omega)
  have hp2' := Aside0.mk hp2; have hp3' := Aside0.mk hp3
  have hr0 := Aside0.mk (show 0 < r.length by omega)
  clear him hz hbl hp1 hp2 hp3 hbb hb hr hp0 hq hrB hrl hrb hri hrt hro hT hr3 hTb H1 hi1 H2 H3 hi3 H4 hm hb71 hG hn hk
  have HB := Aside0.mk (Below.refl w.heap.size w)
  go_enter Tryd.func5, Tryd.ntmps5
  go_wp2_with fail
  refine (HTx.out _).mono ?_
  rintro e w1 ⟨v1, rfl, hR1, hB1⟩
  obtain ⟨A1, c1, rfl, hc1, hC1⟩ := Kd.R_reads hR1
  go_wp2_with (at_builtin; refine Kd.R_append_rows (Kd.int .u8) (w0 := w) w.heap.size rfl (.tmp 17) (.tmp 19) 22 5 (.int .u8 0) 1 rfl Tryd.underlying22 leb_info rfl (by decide) (by omega) (.slice none 0 0) ([] : List Int) (textW s) _ _ _ (fun _ => True) (fun _ => False) rfl rfl ?aO ?aR (fun _ _ h => h) (fun _ h => h.elim) ?aF ?aB ?aS ?aL ?_; (case aR => exact hC1); (case aB => exact hB1); (case aF => exact (fun _ _ => trivial)); (case aO => exact Kd.R_nil _ _ _ _ _); (case aS => exact hB1.size); (case aL => (have := hlt.out; show (0 + (textW s).length) * 1 ≤ 140737488355328; omega)); intro v2 w2 hR2 hB2 hg2 hat2)
  refine (HPn.out _).mono ?_
  rintro e w3 ⟨v3, rfl, hR3, hB3⟩
  obtain ⟨A3, c3, rfl, hc3, hC3⟩ := Kd.R_reads hR3
  have hB3' := below_step hB2 hB3
  go_wp2_with (at_builtin; refine Kd.R_append_rows (Kd.int .u8) (w0 := w) w.heap.size rfl (.tmp 21) (.tmp 24) 22 5 (.int .u8 0) 1 rfl Tryd.underlying22 leb_info rfl (by decide) (by omega) v2 ([] ++ textW s) (lebPut n) _ _ _ (fun _ => True) (fun _ => False) rfl rfl ?aO ?aR (fun _ _ h => h) (fun _ h => h.elim) ?aF ?aB ?aS ?aL ?_; (case aR => exact hC3); (case aB => exact hB3'); (case aF => exact (fun _ _ => trivial)); (case aO => exact Kd.R_below hR2 hB3); (case aS => exact hB3'.size); (case aL => (have h1_ := hlt.out; have h2_ := hp2'.out; have h3_ := hp3'.out; simp only [List.length_append, List.length_nil]; omega)); intro v4 w4 hR4 hB4 hg4 hat4)
  refine (HZg.out _).mono ?_
  rintro e w5 ⟨rfl, hD5⟩
  have hB5' := below_step hB4 hD5.below
  go_wp2_with fail
  refine (HPz.out _).mono ?_
  rintro e w6 ⟨v6, rfl, hR6, hB6⟩
  obtain ⟨A6, c6, rfl, hc6, hC6⟩ := Kd.R_reads hR6
  have hB6' := below_step hB5' hB6
  go_wp2_with (at_builtin; refine Kd.R_append_rows (Kd.int .u8) (w0 := w) w.heap.size rfl (.tmp 26) (.tmp 29) 22 5 (.int .u8 0) 1 rfl Tryd.underlying22 leb_info rfl (by decide) (by omega) v4 (([] ++ textW s) ++ lebPut n) (lebPut (zigI k)) _ _ _ (fun _ => True) (fun _ => False) rfl rfl ?aO ?aR (fun _ _ h => h) (fun _ h => h.elim) ?aF ?aB ?aS ?aL ?_; (case aR => exact hC6); (case aB => exact hB6'); (case aF => exact (fun _ _ => trivial)); (case aO => exact Kd.R_below (Kd.R_below hR4 hD5.below) hB6); (case aS => exact hB6'.size); (case aL => (have h1_ := hlt.out; have h2_ := hp2'.out; have h3_ := hp3'.out; simp only [List.length_append, List.length_nil]; omega)); intro v7 w7 hR7 hB7 hg7 hat7)
  rw [hbe.out] at hR7
  obtain ⟨A7, c7, rfl, hc7, hC7⟩ := Kd.R_reads hR7
  go_wp2_with fail
  refine (HSe.out A7 c7 w7 hC7 hc7 (HG.out.below hB7)).mono ?_
  rintro e w8 ⟨v8, rfl, hR8, hB8⟩
  obtain ⟨A8, c8, rfl, hc8, hC8⟩ := Kd.R_reads hR8
  have hB8' := below_step hB7 hB8
  go_wp2_with fail
  refine (HOp.out A8 c8 w8 hC8 hc8).mono ?_
  rintro e w9 ⟨⟨g, A, c, rfl, hg9, hr9, hf9, ha9⟩, hB9⟩
  have hB9' := below_step hB8' hB9
  have hgw : w.heap.size ≤ g := Nat.le_trans hB8'.size hg9
  go_wp2_with fail
  refine (HRs.out g A c w9 hr9 hf9 (HG.out.below hB9')).mono ?_
  rintro e w10 ⟨⟨B, rfl, hBs, hrB, hfB⟩, hr10, hg10⟩
  have hB10 := below_gr hB9' hg10 hgw
  have hBw : w.heap.size ≤ B := Nat.le_trans hB9'.size hBs
  have hgB : g ≠ B := fun e => by have := rd_lt hr9; omega
  go_wp2_with fail
  refine (secateurlaw03_live.calls true _ (HG.out.below hB10) rfl).mono ?_
  rintro e w11 ⟨rfl, hB11⟩
  have hB11' := below_step hB10 hB11
  have hrB1 := rd_below hrB hB11
  have hr11 := rd_below hr10 hB11
  go_wp2_with fail
  refine (HQT.out B A c w11 hrB1 hfB).mono ?_
  rintro e w12 ⟨rfl, hrB2, hg12⟩
  have hr12 := rd_kept hr11 hg12 hgB (hfB.far)
  have hB12 := below_gr hB11' hg12 hBw
  go_wp2_with fail
  refine (HQN.out B A c w12 hrB2 hfB).mono ?_
  rintro e w13 ⟨rfl, hrB3, hg13⟩
  have hr13 := rd_kept hr12 hg13 hgB (hfB.far)
  have hB13 := below_gr hB12 hg13 hBw
  go_wp2_with fail
  refine (HQS.out B A c w13 hrB3 hfB).mono ?_
  rintro e w14 ⟨rfl, hrB4, hg14⟩
  have hr14 := rd_kept hr13 hg14 hgB (hfB.far)
  have hB14 := below_gr hB13 hg14 hBw
  go_wp2_with fail
  refine (wire_End_some B A c r m m 0 w14 hrB4 hfB rfl).mono ?_
  rintro e w15 ⟨rfl, hrB5, hg15⟩
  have hr15 := rd_kept hr14 hg15 hgB (hfB.far)
  have hB15 := below_gr hB14 hg15 hBw
  go_wp2_with fail
  refine (wire_End_some g A c r r.length r.length 0 w15 hr15 hf9 rfl).mono ?_
  rintro e w16 ⟨rfl, hr16, hg16⟩
  have hB16 := below_gr hB15 hg16 hgw
  go_wp2
  go_ret
  exact ⟨rfl, hB16⟩
set_option maxHeartbeats 8000000 in
set_option maxRecDepth 100000 in
theorem WireBack_long (s : ByteArray) (n k : Int) (w : World) (hs : 64 < s.size) (hG : CrcTab w) :
    Calls Tryd.prog 5 #[.string s, .int .u16 n, .int .i64 k] w fun e w' => e = .returned (.bool true) ∧ Below w.heap.size w w' := by
  have HL := Aside0.mk (secateurlaw03_live.calls true w hG rfl)
  have e64 : decide ((s.size : Int) > 64) = true := decide_eq_true (by omega)
  have e64' : decide (64 < (s.size : Int)) = true := decide_eq_true (by omega)
  have e64'' : decide (64 < s.size) = true := decide_eq_true (by omega)
  clear hG
  go_enter Tryd.func5, Tryd.ntmps5
  go_wp2_with (go_at_call 16; refine HL.out.mono ?_; rintro e w1 ⟨rfl, hB1⟩)
  go_ret
  exact ⟨rfl, hB1⟩
theorem WireBack_walk (a0 : ByteArray) (a1 a2 : Int) (w : World) (w0 : a0.size ≤ 140737488351232) (w1 : (Lit.int .u16 a1).wf = true) (w2 : (Lit.int .i64 a2).wf = true) (hG : CrcTab w) :
    Calls Tryd.prog 5 #[.string a0, .int .u16 a1, .int .i64 a2] w fun e w' => e = .returned (.bool true) ∧ Below w.heap.size w w' := by
  by_cases h : 64 < a0.size
  · exact WireBack_long a0 a1 a2 w h hG
  · refine WireBack_go a0 a1 a2 w (by omega) ?_ (i64_wf w2) hG
    simp [Lit.wf, IntKind.min, IntKind.max, IntKind.signed, IntKind.bits] at w1
    omega
end Go.Proofs.YtmlbfepibfobaaaDoor.Hand
end

section
/-
  DERIVED: THE SHELF's CONTRACTS AT THIS DUMP, IN PLAIN WORDS (tools/lay-plain.mjs out of 'YtmlbfepibfobaaaDoorShelf.lean', which tools/lay-shelf.mjs wrote): THE SAME DECLARATIONS UNDER THE SAME NAMES: 'import', 'namespace', 'open', 'def', 'theorem' AND NOTHING ELSE: no command of the shelf's: FOR A HAND-IN. Each laying: the table of numbers ('.._ren') and one theorem, a field a fact of the dump's own or the kernel's comparison; each contract: ONE APPLICATION.
-/
namespace Go.Proofs
open Go.Shelf
def Tryd.lays169_ren : Go.Shelf.Ren := ⟨fun | 169 => 95 | n => n, fun | 70 => 100 | 9 => 9 | 0 => 0 | 72 => 102 | 37 => 22 | 127 => 138 | 3 => 3 | 5 => 5 | n => n, fun | n => n⟩
theorem Tryd.lays169 : Go.Proofs.Lays.n169 Tryd.prog Tryd.lays169_ren := {
  mixed := by kernel_rfl
  f169 := Tryd.func95.trans (congrArg some (by kernel_rfl))
  t0 := Tryd.underlying0
  a0 := Tryd.isAgg0
  z0 := Tryd.sizeOf0
  v0 := Tryd.zeroValue0
  t3 := Tryd.underlying3
  a3 := Tryd.isAgg3
  z3 := Tryd.sizeOf3
  v3 := Tryd.zeroValue3
  t9 := Tryd.underlying9
  a9 := Tryd.isAgg9
  z9 := Tryd.sizeOf9
  v9 := Tryd.zeroValue9
  t37 := Tryd.underlying22
  a37 := Tryd.isAgg22
  z37 := Tryd.sizeOf22
  v37 := Tryd.zeroValue22
  t70 := Tryd.underlying100
  a70 := Tryd.isAgg100
  z70 := Tryd.sizeOf100
  v70 := Tryd.zeroValue100
  t72 := Tryd.underlying102
  a72 := Tryd.isAgg102
  z72 := Tryd.sizeOf102
  v72 := Tryd.zeroValue102
  t127 := Tryd.underlying138
  a127 := Tryd.isAgg138
  z127 := Tryd.sizeOf138
  v127 := Tryd.zeroValue138 }
theorem Tryd.Builder_Extra_169 : Builder.Extra Tryd.prog Tryd.lays169_ren := {
  sizeBuilder := by kernel_rfl
  liesBuilder := by kernel_rfl
  t5 := Tryd.underlying5
  a5 := Tryd.isAgg5
  z5 := Tryd.sizeOf5
  v5 := Tryd.zeroValue5
  infoByte := by kernel_rfl
  cellsByte := by kernel_rfl
  sizeByte := by kernel_rfl
  neB5 := by decide }
open Go.RowKit in
/-- (*strings.Builder).String: "String returns the accumulated string.": OF A BUILDER THAT HOLDS AT LEAST ONE BYTE. ✋ THE MODEL FREEZES THOSE BYTES IN THE BUFFER (unsafe.String): a later write INTO them ends the model's run without an answer; a later append BEHIND them goes on. The statement's order of evaluation is drawn: one draw. (LAID: no walk: one application.) -/
theorem Tryd.Builder_String (B b : Nat) (l : List UInt8) (w : World) (h : Lib.IsBuilder 102 5 B b (Lib.byteCells l) w) (h0 : l ≠ []) :
    Calls Tryd.prog 95 #[.pointer (some ⟨b, 0, none⟩)] w fun e w' => e = .returned (.string ⟨l.toArray⟩) ∧ Below B w w' := Any.Builder_String Tryd.lays169 Tryd.Builder_Extra_169 B b l w h h0
open Go.RowKit in
/-- (*strings.Builder).String OF A BUILDER THAT HOLDS NO BYTE: the empty string. (Its buffer is nil, or a row of which it has taken nothing yet; where that row has NO capacity the model lays one new block for unsafe.SliceData's 'some address'.) One draw. (LAID: no walk: one application.) -/
theorem Tryd.Builder_String_empty (B b : Nat) (w : World) (h : Lib.IsBuilder 102 5 B b [] w) (hBw : B ≤ w.heap.size) :
    Calls Tryd.prog 95 #[.pointer (some ⟨b, 0, none⟩)] w fun e w' => e = .returned (.string ⟨#[]⟩) ∧ Below B w w' := Any.Builder_String_empty Tryd.lays169 Tryd.Builder_Extra_169 B b w h hBw
open Go.RowKit in
/-- (*strings.Builder).String: "String returns the accumulated string.": WHATEVER THE BUILDER HOLDS. (LAID: no walk: one application.) -/
theorem Tryd.Builder_String_any (B b : Nat) (l : List UInt8) (w : World) (h : Lib.IsBuilder 102 5 B b (Lib.byteCells l) w) (hBw : B ≤ w.heap.size) :
    Calls Tryd.prog 95 #[.pointer (some ⟨b, 0, none⟩)] w fun e w' => e = .returned (.string ⟨l.toArray⟩) ∧ Below B w w' := Any.Builder_String_any Tryd.lays169 Tryd.Builder_Extra_169 B b l w h hBw
def Tryd.lays241_ren : Go.Shelf.Ren := ⟨fun | 241 => 147 | 277 => 154 | n => n, fun | 70 => 100 | 3 => 3 | 0 => 0 | 72 => 102 | 37 => 22 | 5 => 5 | n => n, fun | n => n⟩
theorem Tryd.lays241 : Go.Proofs.Lays.n241 Tryd.prog Tryd.lays241_ren := {
  mixed := by kernel_rfl
  f241 := Tryd.func147.trans (congrArg some (by kernel_rfl))
  f277 := Tryd.func154.trans (congrArg some (by kernel_rfl))
  t0 := Tryd.underlying0
  a0 := Tryd.isAgg0
  z0 := Tryd.sizeOf0
  v0 := Tryd.zeroValue0
  t3 := Tryd.underlying3
  a3 := Tryd.isAgg3
  z3 := Tryd.sizeOf3
  v3 := Tryd.zeroValue3
  t37 := Tryd.underlying22
  a37 := Tryd.isAgg22
  z37 := Tryd.sizeOf22
  v37 := Tryd.zeroValue22
  t70 := Tryd.underlying100
  a70 := Tryd.isAgg100
  z70 := Tryd.sizeOf100
  v70 := Tryd.zeroValue100
  t72 := Tryd.underlying102
  a72 := Tryd.isAgg102
  z72 := Tryd.sizeOf102
  v72 := Tryd.zeroValue102 }
theorem Tryd.Builder_Extra_241 : Builder.Extra Tryd.prog Tryd.lays241_ren := {
  sizeBuilder := by kernel_rfl
  liesBuilder := by kernel_rfl
  t5 := Tryd.underlying5
  a5 := Tryd.isAgg5
  z5 := Tryd.sizeOf5
  v5 := Tryd.zeroValue5
  infoByte := by kernel_rfl
  cellsByte := by kernel_rfl
  sizeByte := by kernel_rfl
  neB5 := by decide }
open Go.RowKit in
/-- (*strings.Builder).grow (no doc but "grow copies the buffer to a new, larger buffer so that there are at least n bytes of capacity beyond len(b.buf)."): AT A BUILDER WITHOUT A BUFFER: a new row of whatever bytes for its buffer, none of them its own yet. Three draws. (LAID: no walk: one application.) -/
theorem Tryd.Builder_grow_fresh (B b n : Nat) (w : World) (hB : B ≤ b) (hbk : w.heap[b]? = some (.cells #[.pointer (some ⟨b, 0, none⟩), .slice none 0 0] 102 (0, 0))) (hBw : B ≤ w.heap.size) (hn : n ≤ 281474976710656) :
    Calls Tryd.prog 147 #[.pointer (some ⟨b, 0, none⟩), .int .i64 n] w fun e w' => e = .returned (.tuple #[]) ∧ (Lib.BuilderAt 102 5 B b (.pointer (some ⟨b, 0, none⟩)) [] w' ∧ Below B w w') := Any.Builder_grow_fresh Tryd.lays241 Tryd.Builder_Extra_241 B b n w hB hbk hBw hn
def Tryd.lays165_ren : Go.Shelf.Ren := ⟨fun | 165 => 133 | 240 => 122 | 241 => 147 | 276 => 140 | 277 => 154 | n => n, fun | 70 => 100 | 3 => 3 | 0 => 0 | 4 => 4 | 9 => 9 | 20 => 20 | 72 => 102 | 37 => 22 | 164 => 154 | 5 => 5 | n => n, fun | n => n⟩
theorem Tryd.lays165 : Go.Proofs.Lays.n165 Tryd.prog Tryd.lays165_ren := {
  mixed := by kernel_rfl
  f165 := Tryd.func133.trans (congrArg some (by kernel_rfl))
  f240 := Tryd.func122.trans (congrArg some (by kernel_rfl))
  f241 := Tryd.func147.trans (congrArg some (by kernel_rfl))
  f276 := Tryd.func140.trans (congrArg some (by kernel_rfl))
  f277 := Tryd.func154.trans (congrArg some (by kernel_rfl))
  t0 := Tryd.underlying0
  a0 := Tryd.isAgg0
  z0 := Tryd.sizeOf0
  v0 := Tryd.zeroValue0
  t3 := Tryd.underlying3
  a3 := Tryd.isAgg3
  z3 := Tryd.sizeOf3
  v3 := Tryd.zeroValue3
  t4 := Tryd.underlying4
  a4 := Tryd.isAgg4
  z4 := Tryd.sizeOf4
  v4 := Tryd.zeroValue4
  t9 := Tryd.underlying9
  a9 := Tryd.isAgg9
  z9 := Tryd.sizeOf9
  v9 := Tryd.zeroValue9
  t20 := Tryd.underlying20
  a20 := Tryd.isAgg20
  z20 := Tryd.sizeOf20
  v20 := Tryd.zeroValue20
  t37 := Tryd.underlying22
  a37 := Tryd.isAgg22
  z37 := Tryd.sizeOf22
  v37 := Tryd.zeroValue22
  t70 := Tryd.underlying100
  a70 := Tryd.isAgg100
  z70 := Tryd.sizeOf100
  v70 := Tryd.zeroValue100
  t72 := Tryd.underlying102
  a72 := Tryd.isAgg102
  z72 := Tryd.sizeOf102
  v72 := Tryd.zeroValue102
  t164 := Tryd.underlying154
  a164 := Tryd.isAgg154
  z164 := Tryd.sizeOf154
  v164 := Tryd.zeroValue154 }
theorem Tryd.Builder_Extra_165 : Builder.Extra Tryd.prog Tryd.lays165_ren := {
  sizeBuilder := by kernel_rfl
  liesBuilder := by kernel_rfl
  t5 := Tryd.underlying5
  a5 := Tryd.isAgg5
  z5 := Tryd.sizeOf5
  v5 := Tryd.zeroValue5
  infoByte := by kernel_rfl
  cellsByte := by kernel_rfl
  sizeByte := by kernel_rfl
  neB5 := by decide }
open Go.RowKit in
/-- (*strings.Builder).Grow AT A BUILDER THAT HAS NOT BEEN WRITTEN ('var b strings.Builder; b.Grow(n)'): "Grow grows b's capacity, if necessary, to guarantee space for another n bytes.": it holds no byte behind it as before it. (LAID: no walk: one application.) -/
theorem Tryd.Builder_Grow_fresh (B b n : Nat) (w : World) (hB : B ≤ b) (hbk : w.heap[b]? = some (.cells #[.pointer none, .slice none 0 0] 102 (0, 0))) (hBw : B ≤ w.heap.size) (hn : n ≤ 281474976710656) :
    Calls Tryd.prog 133 #[.pointer (some ⟨b, 0, none⟩), .int .i64 n] w fun e w' => e = .returned (.tuple #[]) ∧ (Lib.BuilderAt 102 5 B b (.pointer (some ⟨b, 0, none⟩)) [] w' ∧ Below B w w') := Any.Builder_Grow_fresh Tryd.lays165 Tryd.Builder_Extra_165 B b n w hB hbk hBw hn
def Tryd.lays156_ren : Go.Shelf.Ren := ⟨fun | 156 => 104 | 165 => 133 | 166 => 93 | 169 => 95 | 240 => 122 | 241 => 147 | 276 => 140 | 277 => 154 | n => n, fun | 31 => 57 | 9 => 9 | 3 => 3 | 4 => 4 | 0 => 0 | 20 => 20 | 72 => 102 | 76 => 105 | 70 => 100 | 37 => 22 | 75 => 104 | 127 => 138 | 164 => 154 | 5 => 5 | 80 => 40 | n => n, fun | n => n⟩
theorem Tryd.lays156 : Go.Proofs.Lays.n156 Tryd.prog Tryd.lays156_ren := {
  mixed := by kernel_rfl
  f156 := Tryd.func104.trans (congrArg some (by kernel_rfl))
  f165 := Tryd.func133.trans (congrArg some (by kernel_rfl))
  f166 := Tryd.func93.trans (congrArg some (by kernel_rfl))
  f169 := Tryd.func95.trans (congrArg some (by kernel_rfl))
  f240 := Tryd.func122.trans (congrArg some (by kernel_rfl))
  f241 := Tryd.func147.trans (congrArg some (by kernel_rfl))
  f276 := Tryd.func140.trans (congrArg some (by kernel_rfl))
  f277 := Tryd.func154.trans (congrArg some (by kernel_rfl))
  t0 := Tryd.underlying0
  a0 := Tryd.isAgg0
  z0 := Tryd.sizeOf0
  v0 := Tryd.zeroValue0
  t3 := Tryd.underlying3
  a3 := Tryd.isAgg3
  z3 := Tryd.sizeOf3
  v3 := Tryd.zeroValue3
  t4 := Tryd.underlying4
  a4 := Tryd.isAgg4
  z4 := Tryd.sizeOf4
  v4 := Tryd.zeroValue4
  t9 := Tryd.underlying9
  a9 := Tryd.isAgg9
  z9 := Tryd.sizeOf9
  v9 := Tryd.zeroValue9
  t20 := Tryd.underlying20
  a20 := Tryd.isAgg20
  z20 := Tryd.sizeOf20
  v20 := Tryd.zeroValue20
  t31 := Tryd.underlying57
  a31 := Tryd.isAgg57
  z31 := Tryd.sizeOf57
  v31 := Tryd.zeroValue57
  t37 := Tryd.underlying22
  a37 := Tryd.isAgg22
  z37 := Tryd.sizeOf22
  v37 := Tryd.zeroValue22
  t70 := Tryd.underlying100
  a70 := Tryd.isAgg100
  z70 := Tryd.sizeOf100
  v70 := Tryd.zeroValue100
  t72 := Tryd.underlying102
  a72 := Tryd.isAgg102
  z72 := Tryd.sizeOf102
  v72 := Tryd.zeroValue102
  t75 := Tryd.underlying104
  a75 := Tryd.isAgg104
  z75 := Tryd.sizeOf104
  v75 := Tryd.zeroValue104
  t76 := Tryd.underlying105
  a76 := Tryd.isAgg105
  z76 := Tryd.sizeOf105
  v76 := Tryd.zeroValue105
  t127 := Tryd.underlying138
  a127 := Tryd.isAgg138
  z127 := Tryd.sizeOf138
  v127 := Tryd.zeroValue138
  t164 := Tryd.underlying154
  a164 := Tryd.isAgg154
  z164 := Tryd.sizeOf154
  v164 := Tryd.zeroValue154 }
theorem Tryd.Builder_Extra_156 : Builder.Extra Tryd.prog Tryd.lays156_ren := {
  sizeBuilder := by kernel_rfl
  liesBuilder := by kernel_rfl
  t5 := Tryd.underlying5
  a5 := Tryd.isAgg5
  z5 := Tryd.sizeOf5
  v5 := Tryd.zeroValue5
  infoByte := by kernel_rfl
  cellsByte := by kernel_rfl
  sizeByte := by kernel_rfl
  neB5 := by decide }
open Go.RowKit in
/-- No element: the empty string; the world is as it was. (Whatever the slice's address and capacity: a nil slice too.) (LAID: no walk: one application.) -/
theorem Tryd.strings_Join_none (a : Option Addr) (c : Nat) (sep : ByteArray) (w : World) :
    Calls Tryd.prog 104 #[.slice a 0 c, .string sep] w fun e w' => e = .returned (.string ⟨#[]⟩) ∧ w' = w := Any.strings_Join_none Tryd.lays156 Tryd.Builder_Extra_156 a c sep w
open Go.RowKit in
/-- strings.Join: "Join concatenates the elements of its first argument to create a single string. The separator string sep is placed between elements in the resulting string.": HOWEVER MANY ELEMENTS. Below the heap's end the world is as it was. (LAID: no walk: one application.) -/
theorem Tryd.strings_Join (bk o c : Nat) (xs : List ByteArray) (sep : ByteArray) (w : World) (hcells : ∀ (j : Nat) x, xs[j]? = some x → w.cell? ⟨bk, o + j, none⟩ = some (.string x)) (hbk : bk < w.heap.size) (hN : xs.length ≤ 140737488355328) (hcap : xs.length ≤ c) (hlen : (Lib.join (xs.map (·.data.toList)) sep.data.toList).length ≤ 140737488355328) :
    Calls Tryd.prog 104 #[.slice (some ⟨bk, o, none⟩) xs.length c, .string sep] w fun e w' => e = .returned (.string ⟨(Lib.join (xs.map (·.data.toList)) sep.data.toList).toArray⟩) ∧ Below w.heap.size w w' := Any.strings_Join Tryd.lays156 Tryd.Builder_Extra_156 bk o c xs sep w hcells hbk hN hcap hlen
open Go.RowKit in
/-- (*strings.Builder).String: "String returns the accumulated string.": OF A BUILDER THAT HOLDS AT LEAST ONE BYTE. ✋ THE MODEL FREEZES THOSE BYTES IN THE BUFFER (unsafe.String): a later write INTO them ends the model's run without an answer; a later append BEHIND them goes on. The statement's order of evaluation is drawn: one draw. THE FORM '_f': IT SAYS BESIDES THAT THE BUILDER IS A BUILDER STILL ('Lib.IsBuilderF', the same bytes): SO IT CAN BE WRITTEN ON: 'b.WriteString(b.String()[:k])'. (LAID: no walk: one application.) -/
theorem Tryd.Builder_String_f (B b : Nat) (l : List UInt8) (w : World) (h : Lib.IsBuilderF 102 5 B b (Lib.byteCells l) w) (h0 : l ≠ []) :
    Calls Tryd.prog 95 #[.pointer (some ⟨b, 0, none⟩)] w fun e w' => e = .returned (.string ⟨l.toArray⟩) ∧ (Lib.IsBuilderF 102 5 B b (Lib.byteCells l) w' ∧ Below B w w') := Any.Builder_String_f Tryd.lays169 Tryd.Builder_Extra_169 B b l w h h0
open Go.RowKit in
/-- (*strings.Builder).String OF A BUILDER THAT HOLDS NO BYTE: the empty string; THE FORM '_f': a builder still. (LAID: no walk: one application.) -/
theorem Tryd.Builder_String_empty_f (B b : Nat) (w : World) (h : Lib.IsBuilderF 102 5 B b [] w) (hBw : B ≤ w.heap.size) :
    Calls Tryd.prog 95 #[.pointer (some ⟨b, 0, none⟩)] w fun e w' => e = .returned (.string ⟨#[]⟩) ∧ (Lib.IsBuilderF 102 5 B b [] w' ∧ Below B w w') := Any.Builder_String_empty_f Tryd.lays169 Tryd.Builder_Extra_169 B b w h hBw
open Go.RowKit in
/-- (*strings.Builder).String: "String returns the accumulated string.": WHATEVER THE BUILDER HOLDS; THE FORM '_f': OF A BUILDER THAT MAY HAVE BEEN READ BEFORE; AND IT IS A BUILDER STILL, holding the same bytes: it can be written on. (LAID: no walk: one application.) -/
theorem Tryd.Builder_String_any_f (B b : Nat) (l : List UInt8) (w : World) (h : Lib.IsBuilderF 102 5 B b (Lib.byteCells l) w) (hBw : B ≤ w.heap.size) :
    Calls Tryd.prog 95 #[.pointer (some ⟨b, 0, none⟩)] w fun e w' => e = .returned (.string ⟨l.toArray⟩) ∧ (Lib.IsBuilderF 102 5 B b (Lib.byteCells l) w' ∧ Below B w w') := Any.Builder_String_any_f Tryd.lays169 Tryd.Builder_Extra_169 B b l w h hBw
def Tryd.lays217_ren : Go.Shelf.Ren := ⟨fun | 217 => 155 | 266 => 160 | n => n, fun | 9 => 9 | 5 => 5 | 3 => 3 | n => n, fun | n => n⟩
theorem Tryd.lays217 : Go.Proofs.Lays.n217 Tryd.prog Tryd.lays217_ren := {
  mixed := by kernel_rfl
  f217 := Tryd.func155.trans (congrArg some (by kernel_rfl))
  f266 := Tryd.func160.trans (congrArg some (by kernel_rfl))
  t3 := Tryd.underlying3
  a3 := Tryd.isAgg3
  z3 := Tryd.sizeOf3
  v3 := Tryd.zeroValue3
  t5 := Tryd.underlying5
  a5 := Tryd.isAgg5
  z5 := Tryd.sizeOf5
  v5 := Tryd.zeroValue5
  t9 := Tryd.underlying9
  a9 := Tryd.isAgg9
  z9 := Tryd.sizeOf9
  v9 := Tryd.zeroValue9 }
open Go.RowKit Go.Lib in
/-- internal/stringslite.IndexByte (what strings.IndexByte calls): IT RETURNS 'Lib.indexByte s c'; the world is as it was. (LAID: no walk: one application.) -/
theorem Tryd.stringslite_IndexByte (s : ByteArray) (c : Int) (w : World) :
    Calls Tryd.prog 155 #[.string s, .int .u8 c] w fun e w' => e = .returned (.int .i64 (Lib.indexByte s.data.toList c.toNat.toUInt8)) ∧ w' = w := Any.stringslite_IndexByte Tryd.lays217 s c w
def Tryd.lays224_ren : Go.Shelf.Ren := ⟨fun | 224 => 157 | n => n, fun | 3 => 3 | n => n, fun | n => n⟩
theorem Tryd.lays224 : Go.Proofs.Lays.n224 Tryd.prog Tryd.lays224_ren := {
  mixed := by kernel_rfl
  f224 := Tryd.func157.trans (congrArg some (by kernel_rfl))
  t3 := Tryd.underlying3
  a3 := Tryd.isAgg3
  z3 := Tryd.sizeOf3
  v3 := Tryd.zeroValue3 }
open Go.RowKit Go.Lib in
/-- internal/bytealg.Cutover: "Cutover reports the number of failures of IndexByte we should tolerate before switching over to Index. n is the number of bytes processed so far.": on amd64: (n + 16) / 8. (LAID: no walk: one application.) -/
theorem Tryd.bytealg_Cutover (n : Int) (h0 : 0 ≤ n) (h1 : n < 4611686018427387904) (w : World) :
    Calls Tryd.prog 157 #[.int .i64 n] w fun e w' => e = .returned (.int .i64 ((n + 16) / 8)) ∧ w' = w := Any.bytealg_Cutover Tryd.lays224 n h0 h1 w
def Tryd.lays314_ren : Go.Shelf.Ren := ⟨fun | 314 => 161 | n => n, fun | 9 => 9 | 51 => 127 | 3 => 3 | 4 => 4 | 5 => 5 | 46 => 124 | n => n, fun | n => n⟩
theorem Tryd.lays314 : Go.Proofs.Lays.n314 Tryd.prog Tryd.lays314_ren := {
  mixed := by kernel_rfl
  f314 := Tryd.func161.trans (congrArg some (by kernel_rfl))
  t3 := Tryd.underlying3
  a3 := Tryd.isAgg3
  z3 := Tryd.sizeOf3
  v3 := Tryd.zeroValue3
  t4 := Tryd.underlying4
  a4 := Tryd.isAgg4
  z4 := Tryd.sizeOf4
  v4 := Tryd.zeroValue4
  t5 := Tryd.underlying5
  a5 := Tryd.isAgg5
  z5 := Tryd.sizeOf5
  v5 := Tryd.zeroValue5
  t9 := Tryd.underlying9
  a9 := Tryd.isAgg9
  z9 := Tryd.sizeOf9
  v9 := Tryd.zeroValue9
  t46 := Tryd.underlying124
  a46 := Tryd.isAgg124
  z46 := Tryd.sizeOf124
  v46 := Tryd.zeroValue124
  t51 := Tryd.underlying127
  a51 := Tryd.isAgg127
  z51 := Tryd.sizeOf127
  v51 := Tryd.zeroValue127 }
open Go.RowKit Go.Lib in
/-- hashStr: "returns the hash and the appropriate multiplicative factor for use in Rabin-Karp algorithm": THE HASH OF ALL OF sep, AND 16777619 ^ len(sep), both in uint32. (LAID: no walk: one application.) -/
theorem Tryd.bytealg_hashStr (sep : ByteArray) (hs : sep.size < 4294967281) (w : World) :
    Calls Tryd.prog 161 #[.string sep] w fun e w' => e = .returned (.tuple #[.int .u32 (RK.H sep.data.toList % 4294967296), .int .u32 (16777619 ^ sep.size % 4294967296)]) ∧ w' = w := Any.bytealg_hashStr Tryd.lays314 sep hs w
def Tryd.lays267_ren : Go.Shelf.Ren := ⟨fun | 267 => 158 | 314 => 161 | n => n, fun | 9 => 9 | 3 => 3 | 146 => 164 | 51 => 127 | 4 => 4 | 5 => 5 | 46 => 124 | n => n, fun | n => n⟩
theorem Tryd.lays267 : Go.Proofs.Lays.n267 Tryd.prog Tryd.lays267_ren := {
  mixed := by kernel_rfl
  f267 := Tryd.func158.trans (congrArg some (by kernel_rfl))
  f314 := Tryd.func161.trans (congrArg some (by kernel_rfl))
  t3 := Tryd.underlying3
  a3 := Tryd.isAgg3
  z3 := Tryd.sizeOf3
  v3 := Tryd.zeroValue3
  t4 := Tryd.underlying4
  a4 := Tryd.isAgg4
  z4 := Tryd.sizeOf4
  v4 := Tryd.zeroValue4
  t5 := Tryd.underlying5
  a5 := Tryd.isAgg5
  z5 := Tryd.sizeOf5
  v5 := Tryd.zeroValue5
  t9 := Tryd.underlying9
  a9 := Tryd.isAgg9
  z9 := Tryd.sizeOf9
  v9 := Tryd.zeroValue9
  t46 := Tryd.underlying124
  a46 := Tryd.isAgg124
  z46 := Tryd.sizeOf124
  v46 := Tryd.zeroValue124
  t51 := Tryd.underlying127
  a51 := Tryd.isAgg127
  z51 := Tryd.sizeOf127
  v51 := Tryd.zeroValue127
  t146 := Tryd.underlying164
  a146 := Tryd.isAgg164
  z146 := Tryd.sizeOf164
  v146 := Tryd.zeroValue164 }
open Go.RowKit Go.Lib in
theorem Tryd.bytealg_IndexRabinKarp (s sep : ByteArray) (h1 : 1 ≤ sep.size) (h2 : sep.size ≤ s.size) (hs : s.size < 4294967281) (w : World) :
    Calls Tryd.prog 158 #[.string s, .string sep] w fun e w' => e = .returned (.int .i64 (Lib.index s.data.toList sep.data.toList)) ∧ w' = w := Any.bytealg_IndexRabinKarp Tryd.lays267 s sep h1 h2 hs w
def Tryd.lays219_ren : Go.Shelf.Ren := ⟨fun | 219 => 150 | 217 => 155 | 225 => 156 | 224 => 157 | 267 => 158 | 266 => 160 | 314 => 161 | n => n, fun | 9 => 9 | 3 => 3 | 4 => 4 | 5 => 5 | 46 => 124 | 146 => 164 | 51 => 127 | n => n, fun | 1 => 0 | n => n⟩
theorem Tryd.lays219 : Go.Proofs.Lays.n219 Tryd.prog Tryd.lays219_ren := {
  mixed := by kernel_rfl
  f217 := Tryd.func155.trans (congrArg some (by kernel_rfl))
  f219 := Tryd.func150.trans (congrArg some (by kernel_rfl))
  f224 := Tryd.func157.trans (congrArg some (by kernel_rfl))
  f225 := Tryd.func156.trans (congrArg some (by kernel_rfl))
  f266 := Tryd.func160.trans (congrArg some (by kernel_rfl))
  f267 := Tryd.func158.trans (congrArg some (by kernel_rfl))
  f314 := Tryd.func161.trans (congrArg some (by kernel_rfl))
  t3 := Tryd.underlying3
  a3 := Tryd.isAgg3
  z3 := Tryd.sizeOf3
  v3 := Tryd.zeroValue3
  t4 := Tryd.underlying4
  a4 := Tryd.isAgg4
  z4 := Tryd.sizeOf4
  v4 := Tryd.zeroValue4
  t5 := Tryd.underlying5
  a5 := Tryd.isAgg5
  z5 := Tryd.sizeOf5
  v5 := Tryd.zeroValue5
  t9 := Tryd.underlying9
  a9 := Tryd.isAgg9
  z9 := Tryd.sizeOf9
  v9 := Tryd.zeroValue9
  t46 := Tryd.underlying124
  a46 := Tryd.isAgg124
  z46 := Tryd.sizeOf124
  v46 := Tryd.zeroValue124
  t51 := Tryd.underlying127
  a51 := Tryd.isAgg127
  z51 := Tryd.sizeOf127
  v51 := Tryd.zeroValue127
  t146 := Tryd.underlying164
  a146 := Tryd.isAgg164
  z146 := Tryd.sizeOf164
  v146 := Tryd.zeroValue164
  g1 := by kernel_rfl }
open Go.RowKit Go.Lib in
/-- internal/stringslite.Index (what strings.Index calls) AT A substr OF ONE BYTE c: IT RETURNS 'Lib.indexByte s c'; the world is as it was. (LAID: no walk: one application.) -/
theorem Tryd.stringslite_Index_one (s : ByteArray) (c : UInt8) (w : World) :
    Calls Tryd.prog 150 #[.string s, .string ⟨#[c]⟩] w fun e w' => e = .returned (.int .i64 (Lib.indexByte s.data.toList c)) ∧ w' = w := Any.stringslite_Index_one Tryd.lays219 s c w
open Go.RowKit Go.Lib in
/-- internal/stringslite.Index (what strings.Index calls) AT A substr OF WHATEVER LENGTH: IT RETURNS 'Lib.index s substr'; the world is as it was. 'm': what internal/bytealg.MaxLen holds: whatever. (LAID: no walk: one application.) -/
theorem Tryd.stringslite_Index (s sub : ByteArray) (m : Int) (w : World) (hs : s.size < 4294967281) (hm : w.cell? ⟨0, 0, none⟩ = some (.int .i64 m)) :
    Calls Tryd.prog 150 #[.string s, .string sub] w fun e w' => e = .returned (.int .i64 (Lib.index s.data.toList sub.data.toList)) ∧ w' = w := Any.stringslite_Index Tryd.lays219 s sub m w hs hm
def Tryd.lays143_ren : Go.Shelf.Ren := ⟨fun | 143 => 146 | 219 => 150 | 217 => 155 | 225 => 156 | 224 => 157 | 267 => 158 | 266 => 160 | 314 => 161 | n => n, fun | 9 => 9 | 3 => 3 | 4 => 4 | 5 => 5 | 46 => 124 | 146 => 164 | 51 => 127 | n => n, fun | 1 => 0 | n => n⟩
theorem Tryd.lays143 : Go.Proofs.Lays.n143 Tryd.prog Tryd.lays143_ren := {
  mixed := by kernel_rfl
  f143 := Tryd.func146.trans (congrArg some (by kernel_rfl))
  f217 := Tryd.func155.trans (congrArg some (by kernel_rfl))
  f219 := Tryd.func150.trans (congrArg some (by kernel_rfl))
  f224 := Tryd.func157.trans (congrArg some (by kernel_rfl))
  f225 := Tryd.func156.trans (congrArg some (by kernel_rfl))
  f266 := Tryd.func160.trans (congrArg some (by kernel_rfl))
  f267 := Tryd.func158.trans (congrArg some (by kernel_rfl))
  f314 := Tryd.func161.trans (congrArg some (by kernel_rfl))
  t3 := Tryd.underlying3
  a3 := Tryd.isAgg3
  z3 := Tryd.sizeOf3
  v3 := Tryd.zeroValue3
  t4 := Tryd.underlying4
  a4 := Tryd.isAgg4
  z4 := Tryd.sizeOf4
  v4 := Tryd.zeroValue4
  t5 := Tryd.underlying5
  a5 := Tryd.isAgg5
  z5 := Tryd.sizeOf5
  v5 := Tryd.zeroValue5
  t9 := Tryd.underlying9
  a9 := Tryd.isAgg9
  z9 := Tryd.sizeOf9
  v9 := Tryd.zeroValue9
  t46 := Tryd.underlying124
  a46 := Tryd.isAgg124
  z46 := Tryd.sizeOf124
  v46 := Tryd.zeroValue124
  t51 := Tryd.underlying127
  a51 := Tryd.isAgg127
  z51 := Tryd.sizeOf127
  v51 := Tryd.zeroValue127
  t146 := Tryd.underlying164
  a146 := Tryd.isAgg164
  z146 := Tryd.sizeOf164
  v146 := Tryd.zeroValue164
  g1 := by kernel_rfl }
open Go.RowKit Go.Lib in
/-- strings.Index: "Index returns the index of the first instance of substr in s, or -1 if substr is not present in s.": AT A substr OF ONE BYTE c: IT RETURNS 'Lib.indexByte s c'; the world is as it was. (LAID: no walk: one application.) -/
theorem Tryd.strings_Index_one (s : ByteArray) (c : UInt8) (w : World) :
    Calls Tryd.prog 146 #[.string s, .string ⟨#[c]⟩] w fun e w' => e = .returned (.int .i64 (Lib.indexByte s.data.toList c)) ∧ w' = w := Any.strings_Index_one Tryd.lays143 s c w
open Go.RowKit Go.Lib in
/-- strings.Index: "Index returns the index of the first instance of substr in s, or -1 if substr is not present in s.": IT RETURNS 'Lib.index s substr'; the world is as it was. (LAID: no walk: one application.) -/
theorem Tryd.strings_Index (s sub : ByteArray) (m : Int) (w : World) (hs : s.size < 4294967281) (hm : w.cell? ⟨0, 0, none⟩ = some (.int .i64 m)) :
    Calls Tryd.prog 146 #[.string s, .string sub] w fun e w' => e = .returned (.int .i64 (Lib.index s.data.toList sub.data.toList)) ∧ w' = w := Any.strings_Index Tryd.lays143 s sub m w hs hm
def Tryd.lays220_ren : Go.Shelf.Ren := ⟨fun | 220 => 142 | 219 => 150 | 217 => 155 | 225 => 156 | 224 => 157 | 267 => 158 | 266 => 160 | 314 => 161 | n => n, fun | 9 => 9 | 4 => 4 | 3 => 3 | 5 => 5 | 46 => 124 | 146 => 164 | 51 => 127 | n => n, fun | 1 => 0 | n => n⟩
theorem Tryd.lays220 : Go.Proofs.Lays.n220 Tryd.prog Tryd.lays220_ren := {
  mixed := by kernel_rfl
  f217 := Tryd.func155.trans (congrArg some (by kernel_rfl))
  f219 := Tryd.func150.trans (congrArg some (by kernel_rfl))
  f220 := Tryd.func142.trans (congrArg some (by kernel_rfl))
  f224 := Tryd.func157.trans (congrArg some (by kernel_rfl))
  f225 := Tryd.func156.trans (congrArg some (by kernel_rfl))
  f266 := Tryd.func160.trans (congrArg some (by kernel_rfl))
  f267 := Tryd.func158.trans (congrArg some (by kernel_rfl))
  f314 := Tryd.func161.trans (congrArg some (by kernel_rfl))
  t3 := Tryd.underlying3
  a3 := Tryd.isAgg3
  z3 := Tryd.sizeOf3
  v3 := Tryd.zeroValue3
  t4 := Tryd.underlying4
  a4 := Tryd.isAgg4
  z4 := Tryd.sizeOf4
  v4 := Tryd.zeroValue4
  t5 := Tryd.underlying5
  a5 := Tryd.isAgg5
  z5 := Tryd.sizeOf5
  v5 := Tryd.zeroValue5
  t9 := Tryd.underlying9
  a9 := Tryd.isAgg9
  z9 := Tryd.sizeOf9
  v9 := Tryd.zeroValue9
  t46 := Tryd.underlying124
  a46 := Tryd.isAgg124
  z46 := Tryd.sizeOf124
  v46 := Tryd.zeroValue124
  t51 := Tryd.underlying127
  a51 := Tryd.isAgg127
  z51 := Tryd.sizeOf127
  v51 := Tryd.zeroValue127
  t146 := Tryd.underlying164
  a146 := Tryd.isAgg164
  z146 := Tryd.sizeOf164
  v146 := Tryd.zeroValue164
  g1 := by kernel_rfl }
open Go.RowKit Go.Lib in
/-- internal/stringslite.Cut (what strings.Cut calls): IT RETURNS 'Lib.cut s sep'; the world is as it was but for the count of draws. (LAID: no walk: one application.) -/
theorem Tryd.stringslite_Cut (s sep : ByteArray) (m : Int) (w : World) (hs : s.size < 4294967281) (hm : w.cell? ⟨0, 0, none⟩ = some (.int .i64 m)) :
    Calls Tryd.prog 142 #[.string s, .string sep] w fun e w' => e = .returned (.tuple #[.string ⟨(Lib.cut s.data.toList sep.data.toList).1.toArray⟩, .string ⟨(Lib.cut s.data.toList sep.data.toList).2.1.toArray⟩, .bool (Lib.cut s.data.toList sep.data.toList).2.2]) ∧ ∃ n, w' = w.drewN n := Any.stringslite_Cut Tryd.lays220 s sep m w hs hm
def Tryd.lays145_ren : Go.Shelf.Ren := ⟨fun | 145 => 129 | 220 => 142 | 219 => 150 | 217 => 155 | 225 => 156 | 224 => 157 | 267 => 158 | 266 => 160 | 314 => 161 | n => n, fun | 9 => 9 | 4 => 4 | 59 => 108 | 3 => 3 | 5 => 5 | 46 => 124 | 146 => 164 | 51 => 127 | n => n, fun | 1 => 0 | n => n⟩
theorem Tryd.lays145 : Go.Proofs.Lays.n145 Tryd.prog Tryd.lays145_ren := {
  mixed := by kernel_rfl
  f145 := Tryd.func129.trans (congrArg some (by kernel_rfl))
  f217 := Tryd.func155.trans (congrArg some (by kernel_rfl))
  f219 := Tryd.func150.trans (congrArg some (by kernel_rfl))
  f220 := Tryd.func142.trans (congrArg some (by kernel_rfl))
  f224 := Tryd.func157.trans (congrArg some (by kernel_rfl))
  f225 := Tryd.func156.trans (congrArg some (by kernel_rfl))
  f266 := Tryd.func160.trans (congrArg some (by kernel_rfl))
  f267 := Tryd.func158.trans (congrArg some (by kernel_rfl))
  f314 := Tryd.func161.trans (congrArg some (by kernel_rfl))
  t3 := Tryd.underlying3
  a3 := Tryd.isAgg3
  z3 := Tryd.sizeOf3
  v3 := Tryd.zeroValue3
  t4 := Tryd.underlying4
  a4 := Tryd.isAgg4
  z4 := Tryd.sizeOf4
  v4 := Tryd.zeroValue4
  t5 := Tryd.underlying5
  a5 := Tryd.isAgg5
  z5 := Tryd.sizeOf5
  v5 := Tryd.zeroValue5
  t9 := Tryd.underlying9
  a9 := Tryd.isAgg9
  z9 := Tryd.sizeOf9
  v9 := Tryd.zeroValue9
  t46 := Tryd.underlying124
  a46 := Tryd.isAgg124
  z46 := Tryd.sizeOf124
  v46 := Tryd.zeroValue124
  t51 := Tryd.underlying127
  a51 := Tryd.isAgg127
  z51 := Tryd.sizeOf127
  v51 := Tryd.zeroValue127
  t59 := Tryd.underlying108
  a59 := Tryd.isAgg108
  z59 := Tryd.sizeOf108
  v59 := Tryd.zeroValue108
  t146 := Tryd.underlying164
  a146 := Tryd.isAgg164
  z146 := Tryd.sizeOf164
  v146 := Tryd.zeroValue164
  g1 := by kernel_rfl }
open Go.RowKit Go.Lib in
/-- strings.Cut: "Cut slices s around the first instance of sep, returning the text before and after sep. The found result reports whether sep appears in s. If sep does not appear in s, cut returns s, "", false.": IT RETURNS 'Lib.cut s sep'; the world is as it was but for the count of draws. (LAID: no walk: one application.) -/
theorem Tryd.strings_Cut (s sep : ByteArray) (m : Int) (w : World) (hs : s.size < 4294967281) (hm : w.cell? ⟨0, 0, none⟩ = some (.int .i64 m)) :
    Calls Tryd.prog 129 #[.string s, .string sep] w fun e w' => e = .returned (.tuple #[.string ⟨(Lib.cut s.data.toList sep.data.toList).1.toArray⟩, .string ⟨(Lib.cut s.data.toList sep.data.toList).2.1.toArray⟩, .bool (Lib.cut s.data.toList sep.data.toList).2.2]) ∧ ∃ n, w' = w.drewN n := Any.strings_Cut Tryd.lays145 s sep m w hs hm
def Tryd.lays138_ren : Go.Shelf.Ren := ⟨fun | 138 => 145 | 195 => 151 | 218 => 153 | 143 => 146 | 219 => 150 | 217 => 155 | 225 => 156 | 224 => 157 | 267 => 158 | 266 => 160 | 314 => 161 | n => n, fun | 9 => 9 | 3 => 3 | 4 => 4 | 5 => 5 | 0 => 0 | 46 => 124 | 146 => 164 | 51 => 127 | n => n, fun | 1 => 0 | n => n⟩
theorem Tryd.lays138 : Go.Proofs.Lays.n138 Tryd.prog Tryd.lays138_ren := {
  mixed := by kernel_rfl
  f138 := Tryd.func145.trans (congrArg some (by kernel_rfl))
  f143 := Tryd.func146.trans (congrArg some (by kernel_rfl))
  f195 := Tryd.func151.trans (congrArg some (by kernel_rfl))
  f217 := Tryd.func155.trans (congrArg some (by kernel_rfl))
  f218 := Tryd.func153.trans (congrArg some (by kernel_rfl))
  f219 := Tryd.func150.trans (congrArg some (by kernel_rfl))
  f224 := Tryd.func157.trans (congrArg some (by kernel_rfl))
  f225 := Tryd.func156.trans (congrArg some (by kernel_rfl))
  f266 := Tryd.func160.trans (congrArg some (by kernel_rfl))
  f267 := Tryd.func158.trans (congrArg some (by kernel_rfl))
  f314 := Tryd.func161.trans (congrArg some (by kernel_rfl))
  t0 := Tryd.underlying0
  a0 := Tryd.isAgg0
  z0 := Tryd.sizeOf0
  v0 := Tryd.zeroValue0
  t3 := Tryd.underlying3
  a3 := Tryd.isAgg3
  z3 := Tryd.sizeOf3
  v3 := Tryd.zeroValue3
  t4 := Tryd.underlying4
  a4 := Tryd.isAgg4
  z4 := Tryd.sizeOf4
  v4 := Tryd.zeroValue4
  t5 := Tryd.underlying5
  a5 := Tryd.isAgg5
  z5 := Tryd.sizeOf5
  v5 := Tryd.zeroValue5
  t9 := Tryd.underlying9
  a9 := Tryd.isAgg9
  z9 := Tryd.sizeOf9
  v9 := Tryd.zeroValue9
  t46 := Tryd.underlying124
  a46 := Tryd.isAgg124
  z46 := Tryd.sizeOf124
  v46 := Tryd.zeroValue124
  t51 := Tryd.underlying127
  a51 := Tryd.isAgg127
  z51 := Tryd.sizeOf127
  v51 := Tryd.zeroValue127
  t146 := Tryd.underlying164
  a146 := Tryd.isAgg164
  z146 := Tryd.sizeOf164
  v146 := Tryd.zeroValue164
  g1 := by kernel_rfl }
open Go.RowKit Go.Lib in
/-- strings.Count AT A substr OF ONE BYTE ('hp'): "Count counts the number of non-overlapping instances of substr in s.": IT RETURNS 'Lib.countByte s (that byte)'; the world is as it was. ✋ NO CONTRACT HERE YET at an empty substr (utf8.RuneCountInString) or at a longer one (a loop over strings.Index). (LAID: no walk: one application.) -/
theorem Tryd.strings_Count_one (s : ByteArray) (c : UInt8) (w : World) :
    Calls Tryd.prog 145 #[.string s, .string ⟨#[c]⟩] w fun e w' => e = .returned (.int .i64 (Lib.countByte s.data.toList c)) ∧ w' = w := Any.strings_Count_one Tryd.lays138 s c w
open Go.RowKit Go.Lib in
/-- strings.Count AT A substr OF TWO BYTES OR MORE: "Count counts the number of non-overlapping instances of substr in s.": IT RETURNS 'Lib.count s substr'; the world is as it was. (LAID: no walk: one application.) -/
theorem Tryd.strings_Count (s sub : ByteArray) (m : Int) (w : World) (hs : s.size < 4294967281) (hm : w.cell? ⟨0, 0, none⟩ = some (.int .i64 m)) (h2 : 2 ≤ sub.size) :
    Calls Tryd.prog 145 #[.string s, .string sub] w fun e w' => e = .returned (.int .i64 (Lib.countB s sub)) ∧ w' = w := Any.strings_Count Tryd.lays138 s sub m w hs hm h2
def Tryd.laysM219_ren : Go.Shelf.Ren := ⟨fun | 219 => 150 | 217 => 155 | 225 => 156 | 224 => 157 | 267 => 158 | 266 => 160 | 314 => 161 | n => n, fun | 9 => 9 | 3 => 3 | 4 => 4 | 5 => 5 | 46 => 124 | 146 => 164 | 51 => 127 | n => n, fun | 1 => 0 | n => n⟩
theorem Tryd.laysM219 : Go.Proofs.LaysM.n219 Tryd.prog Tryd.laysM219_ren := {
  mixed := by kernel_rfl
  f217 := Tryd.func155.trans (congrArg some (by kernel_rfl))
  f219 := Tryd.func150.trans (congrArg some (by kernel_rfl))
  f224 := Tryd.func157.trans (congrArg some (by kernel_rfl))
  f225 := Tryd.func156.trans (congrArg some (by kernel_rfl))
  f266 := Tryd.func160.trans (congrArg some (by kernel_rfl))
  f267 := Tryd.func158.trans (congrArg some (by kernel_rfl))
  f314 := Tryd.func161.trans (congrArg some (by kernel_rfl))
  t3 := Tryd.underlying3
  a3 := Tryd.isAgg3
  z3 := Tryd.sizeOf3
  v3 := Tryd.zeroValue3
  t4 := Tryd.underlying4
  a4 := Tryd.isAgg4
  z4 := Tryd.sizeOf4
  v4 := Tryd.zeroValue4
  t5 := Tryd.underlying5
  a5 := Tryd.isAgg5
  z5 := Tryd.sizeOf5
  v5 := Tryd.zeroValue5
  t9 := Tryd.underlying9
  a9 := Tryd.isAgg9
  z9 := Tryd.sizeOf9
  v9 := Tryd.zeroValue9
  t46 := Tryd.underlying124
  a46 := Tryd.isAgg124
  z46 := Tryd.sizeOf124
  v46 := Tryd.zeroValue124
  t51 := Tryd.underlying127
  a51 := Tryd.isAgg127
  z51 := Tryd.sizeOf127
  v51 := Tryd.zeroValue127
  t146 := Tryd.underlying164
  a146 := Tryd.isAgg164
  z146 := Tryd.sizeOf164
  v146 := Tryd.zeroValue164
  g1 := by kernel_rfl
  i3 := by kernel_rfl
  i4 := by kernel_rfl
  i5 := by kernel_rfl
  i9 := by kernel_rfl
  i46 := by kernel_rfl
  i51 := by kernel_rfl
  i146 := by kernel_rfl
  m1 := by kernel_rfl
  s1_3 := fun w h => Go.Proofs.cell_of_shapedOpen_int (zero := #[.int .i64 0]) (t := 3) h (of_decide_eq_true (by kernel_rfl)) (by kernel_rfl) rfl (by kernel_rfl) (by kernel_rfl) Tryd.underlying3 }
open Go.RowKit Go.Lib in
theorem Tryd.stringslite_Index_shaped (s sub : ByteArray) (w : World) (h : w.ShapedOpen Tryd.prog) (hs : s.size < 4294967281) :
    Calls Tryd.prog 150 #[.string s, .string sub] w fun e w' => e = .returned (.int .i64 (Lib.index s.data.toList sub.data.toList)) ∧ w' = w := Any.stringslite_Index_shaped Tryd.laysM219 s sub w h hs
def Tryd.laysM143_ren : Go.Shelf.Ren := ⟨fun | 143 => 146 | 219 => 150 | 217 => 155 | 225 => 156 | 224 => 157 | 267 => 158 | 266 => 160 | 314 => 161 | n => n, fun | 9 => 9 | 3 => 3 | 4 => 4 | 5 => 5 | 46 => 124 | 146 => 164 | 51 => 127 | n => n, fun | 1 => 0 | n => n⟩
theorem Tryd.laysM143 : Go.Proofs.LaysM.n143 Tryd.prog Tryd.laysM143_ren := {
  mixed := by kernel_rfl
  f143 := Tryd.func146.trans (congrArg some (by kernel_rfl))
  f217 := Tryd.func155.trans (congrArg some (by kernel_rfl))
  f219 := Tryd.func150.trans (congrArg some (by kernel_rfl))
  f224 := Tryd.func157.trans (congrArg some (by kernel_rfl))
  f225 := Tryd.func156.trans (congrArg some (by kernel_rfl))
  f266 := Tryd.func160.trans (congrArg some (by kernel_rfl))
  f267 := Tryd.func158.trans (congrArg some (by kernel_rfl))
  f314 := Tryd.func161.trans (congrArg some (by kernel_rfl))
  t3 := Tryd.underlying3
  a3 := Tryd.isAgg3
  z3 := Tryd.sizeOf3
  v3 := Tryd.zeroValue3
  t4 := Tryd.underlying4
  a4 := Tryd.isAgg4
  z4 := Tryd.sizeOf4
  v4 := Tryd.zeroValue4
  t5 := Tryd.underlying5
  a5 := Tryd.isAgg5
  z5 := Tryd.sizeOf5
  v5 := Tryd.zeroValue5
  t9 := Tryd.underlying9
  a9 := Tryd.isAgg9
  z9 := Tryd.sizeOf9
  v9 := Tryd.zeroValue9
  t46 := Tryd.underlying124
  a46 := Tryd.isAgg124
  z46 := Tryd.sizeOf124
  v46 := Tryd.zeroValue124
  t51 := Tryd.underlying127
  a51 := Tryd.isAgg127
  z51 := Tryd.sizeOf127
  v51 := Tryd.zeroValue127
  t146 := Tryd.underlying164
  a146 := Tryd.isAgg164
  z146 := Tryd.sizeOf164
  v146 := Tryd.zeroValue164
  g1 := by kernel_rfl
  i3 := by kernel_rfl
  i4 := by kernel_rfl
  i5 := by kernel_rfl
  i9 := by kernel_rfl
  i46 := by kernel_rfl
  i51 := by kernel_rfl
  i146 := by kernel_rfl
  m1 := by kernel_rfl
  s1_3 := fun w h => Go.Proofs.cell_of_shapedOpen_int (zero := #[.int .i64 0]) (t := 3) h (of_decide_eq_true (by kernel_rfl)) (by kernel_rfl) rfl (by kernel_rfl) (by kernel_rfl) Tryd.underlying3 }
open Go.RowKit Go.Lib in
theorem Tryd.strings_Index_shaped (s sub : ByteArray) (w : World) (h : w.ShapedOpen Tryd.prog) (hs : s.size < 4294967281) :
    Calls Tryd.prog 146 #[.string s, .string sub] w fun e w' => e = .returned (.int .i64 (Lib.index s.data.toList sub.data.toList)) ∧ w' = w := Any.strings_Index_shaped Tryd.laysM143 s sub w h hs
def Tryd.laysM220_ren : Go.Shelf.Ren := ⟨fun | 220 => 142 | 219 => 150 | 217 => 155 | 225 => 156 | 224 => 157 | 267 => 158 | 266 => 160 | 314 => 161 | n => n, fun | 9 => 9 | 4 => 4 | 3 => 3 | 5 => 5 | 46 => 124 | 146 => 164 | 51 => 127 | n => n, fun | 1 => 0 | n => n⟩
theorem Tryd.laysM220 : Go.Proofs.LaysM.n220 Tryd.prog Tryd.laysM220_ren := {
  mixed := by kernel_rfl
  f217 := Tryd.func155.trans (congrArg some (by kernel_rfl))
  f219 := Tryd.func150.trans (congrArg some (by kernel_rfl))
  f220 := Tryd.func142.trans (congrArg some (by kernel_rfl))
  f224 := Tryd.func157.trans (congrArg some (by kernel_rfl))
  f225 := Tryd.func156.trans (congrArg some (by kernel_rfl))
  f266 := Tryd.func160.trans (congrArg some (by kernel_rfl))
  f267 := Tryd.func158.trans (congrArg some (by kernel_rfl))
  f314 := Tryd.func161.trans (congrArg some (by kernel_rfl))
  t3 := Tryd.underlying3
  a3 := Tryd.isAgg3
  z3 := Tryd.sizeOf3
  v3 := Tryd.zeroValue3
  t4 := Tryd.underlying4
  a4 := Tryd.isAgg4
  z4 := Tryd.sizeOf4
  v4 := Tryd.zeroValue4
  t5 := Tryd.underlying5
  a5 := Tryd.isAgg5
  z5 := Tryd.sizeOf5
  v5 := Tryd.zeroValue5
  t9 := Tryd.underlying9
  a9 := Tryd.isAgg9
  z9 := Tryd.sizeOf9
  v9 := Tryd.zeroValue9
  t46 := Tryd.underlying124
  a46 := Tryd.isAgg124
  z46 := Tryd.sizeOf124
  v46 := Tryd.zeroValue124
  t51 := Tryd.underlying127
  a51 := Tryd.isAgg127
  z51 := Tryd.sizeOf127
  v51 := Tryd.zeroValue127
  t146 := Tryd.underlying164
  a146 := Tryd.isAgg164
  z146 := Tryd.sizeOf164
  v146 := Tryd.zeroValue164
  g1 := by kernel_rfl
  i3 := by kernel_rfl
  i4 := by kernel_rfl
  i5 := by kernel_rfl
  i9 := by kernel_rfl
  i46 := by kernel_rfl
  i51 := by kernel_rfl
  i146 := by kernel_rfl
  m1 := by kernel_rfl
  s1_3 := fun w h => Go.Proofs.cell_of_shapedOpen_int (zero := #[.int .i64 0]) (t := 3) h (of_decide_eq_true (by kernel_rfl)) (by kernel_rfl) rfl (by kernel_rfl) (by kernel_rfl) Tryd.underlying3 }
open Go.RowKit Go.Lib in
theorem Tryd.stringslite_Cut_shaped (s sep : ByteArray) (w : World) (h : w.ShapedOpen Tryd.prog) (hs : s.size < 4294967281) :
    Calls Tryd.prog 142 #[.string s, .string sep] w fun e w' => e = .returned (.tuple #[.string ⟨(Lib.cut s.data.toList sep.data.toList).1.toArray⟩, .string ⟨(Lib.cut s.data.toList sep.data.toList).2.1.toArray⟩, .bool (Lib.cut s.data.toList sep.data.toList).2.2]) ∧ ∃ n, w' = w.drewN n := Any.stringslite_Cut_shaped Tryd.laysM220 s sep w h hs
def Tryd.laysM145_ren : Go.Shelf.Ren := ⟨fun | 145 => 129 | 220 => 142 | 219 => 150 | 217 => 155 | 225 => 156 | 224 => 157 | 267 => 158 | 266 => 160 | 314 => 161 | n => n, fun | 9 => 9 | 4 => 4 | 59 => 108 | 3 => 3 | 5 => 5 | 46 => 124 | 146 => 164 | 51 => 127 | n => n, fun | 1 => 0 | n => n⟩
theorem Tryd.laysM145 : Go.Proofs.LaysM.n145 Tryd.prog Tryd.laysM145_ren := {
  mixed := by kernel_rfl
  f145 := Tryd.func129.trans (congrArg some (by kernel_rfl))
  f217 := Tryd.func155.trans (congrArg some (by kernel_rfl))
  f219 := Tryd.func150.trans (congrArg some (by kernel_rfl))
  f220 := Tryd.func142.trans (congrArg some (by kernel_rfl))
  f224 := Tryd.func157.trans (congrArg some (by kernel_rfl))
  f225 := Tryd.func156.trans (congrArg some (by kernel_rfl))
  f266 := Tryd.func160.trans (congrArg some (by kernel_rfl))
  f267 := Tryd.func158.trans (congrArg some (by kernel_rfl))
  f314 := Tryd.func161.trans (congrArg some (by kernel_rfl))
  t3 := Tryd.underlying3
  a3 := Tryd.isAgg3
  z3 := Tryd.sizeOf3
  v3 := Tryd.zeroValue3
  t4 := Tryd.underlying4
  a4 := Tryd.isAgg4
  z4 := Tryd.sizeOf4
  v4 := Tryd.zeroValue4
  t5 := Tryd.underlying5
  a5 := Tryd.isAgg5
  z5 := Tryd.sizeOf5
  v5 := Tryd.zeroValue5
  t9 := Tryd.underlying9
  a9 := Tryd.isAgg9
  z9 := Tryd.sizeOf9
  v9 := Tryd.zeroValue9
  t46 := Tryd.underlying124
  a46 := Tryd.isAgg124
  z46 := Tryd.sizeOf124
  v46 := Tryd.zeroValue124
  t51 := Tryd.underlying127
  a51 := Tryd.isAgg127
  z51 := Tryd.sizeOf127
  v51 := Tryd.zeroValue127
  t59 := Tryd.underlying108
  a59 := Tryd.isAgg108
  z59 := Tryd.sizeOf108
  v59 := Tryd.zeroValue108
  t146 := Tryd.underlying164
  a146 := Tryd.isAgg164
  z146 := Tryd.sizeOf164
  v146 := Tryd.zeroValue164
  g1 := by kernel_rfl
  i3 := by kernel_rfl
  i4 := by kernel_rfl
  i5 := by kernel_rfl
  i9 := by kernel_rfl
  i46 := by kernel_rfl
  i51 := by kernel_rfl
  i59 := by kernel_rfl
  i146 := by kernel_rfl
  m1 := by kernel_rfl
  s1_3 := fun w h => Go.Proofs.cell_of_shapedOpen_int (zero := #[.int .i64 0]) (t := 3) h (of_decide_eq_true (by kernel_rfl)) (by kernel_rfl) rfl (by kernel_rfl) (by kernel_rfl) Tryd.underlying3 }
open Go.RowKit Go.Lib in
theorem Tryd.strings_Cut_shaped (s sep : ByteArray) (w : World) (h : w.ShapedOpen Tryd.prog) (hs : s.size < 4294967281) :
    Calls Tryd.prog 129 #[.string s, .string sep] w fun e w' => e = .returned (.tuple #[.string ⟨(Lib.cut s.data.toList sep.data.toList).1.toArray⟩, .string ⟨(Lib.cut s.data.toList sep.data.toList).2.1.toArray⟩, .bool (Lib.cut s.data.toList sep.data.toList).2.2]) ∧ ∃ n, w' = w.drewN n := Any.strings_Cut_shaped Tryd.laysM145 s sep w h hs
def Tryd.laysM138_ren : Go.Shelf.Ren := ⟨fun | 138 => 145 | 195 => 151 | 218 => 153 | 143 => 146 | 219 => 150 | 217 => 155 | 225 => 156 | 224 => 157 | 267 => 158 | 266 => 160 | 314 => 161 | n => n, fun | 9 => 9 | 3 => 3 | 4 => 4 | 5 => 5 | 0 => 0 | 46 => 124 | 146 => 164 | 51 => 127 | n => n, fun | 1 => 0 | n => n⟩
theorem Tryd.laysM138 : Go.Proofs.LaysM.n138 Tryd.prog Tryd.laysM138_ren := {
  mixed := by kernel_rfl
  f138 := Tryd.func145.trans (congrArg some (by kernel_rfl))
  f143 := Tryd.func146.trans (congrArg some (by kernel_rfl))
  f195 := Tryd.func151.trans (congrArg some (by kernel_rfl))
  f217 := Tryd.func155.trans (congrArg some (by kernel_rfl))
  f218 := Tryd.func153.trans (congrArg some (by kernel_rfl))
  f219 := Tryd.func150.trans (congrArg some (by kernel_rfl))
  f224 := Tryd.func157.trans (congrArg some (by kernel_rfl))
  f225 := Tryd.func156.trans (congrArg some (by kernel_rfl))
  f266 := Tryd.func160.trans (congrArg some (by kernel_rfl))
  f267 := Tryd.func158.trans (congrArg some (by kernel_rfl))
  f314 := Tryd.func161.trans (congrArg some (by kernel_rfl))
  t0 := Tryd.underlying0
  a0 := Tryd.isAgg0
  z0 := Tryd.sizeOf0
  v0 := Tryd.zeroValue0
  t3 := Tryd.underlying3
  a3 := Tryd.isAgg3
  z3 := Tryd.sizeOf3
  v3 := Tryd.zeroValue3
  t4 := Tryd.underlying4
  a4 := Tryd.isAgg4
  z4 := Tryd.sizeOf4
  v4 := Tryd.zeroValue4
  t5 := Tryd.underlying5
  a5 := Tryd.isAgg5
  z5 := Tryd.sizeOf5
  v5 := Tryd.zeroValue5
  t9 := Tryd.underlying9
  a9 := Tryd.isAgg9
  z9 := Tryd.sizeOf9
  v9 := Tryd.zeroValue9
  t46 := Tryd.underlying124
  a46 := Tryd.isAgg124
  z46 := Tryd.sizeOf124
  v46 := Tryd.zeroValue124
  t51 := Tryd.underlying127
  a51 := Tryd.isAgg127
  z51 := Tryd.sizeOf127
  v51 := Tryd.zeroValue127
  t146 := Tryd.underlying164
  a146 := Tryd.isAgg164
  z146 := Tryd.sizeOf164
  v146 := Tryd.zeroValue164
  g1 := by kernel_rfl
  i0 := by kernel_rfl
  i3 := by kernel_rfl
  i4 := by kernel_rfl
  i5 := by kernel_rfl
  i9 := by kernel_rfl
  i46 := by kernel_rfl
  i51 := by kernel_rfl
  i146 := by kernel_rfl
  m1 := by kernel_rfl
  s1_3 := fun w h => Go.Proofs.cell_of_shapedOpen_int (zero := #[.int .i64 0]) (t := 3) h (of_decide_eq_true (by kernel_rfl)) (by kernel_rfl) rfl (by kernel_rfl) (by kernel_rfl) Tryd.underlying3 }
open Go.RowKit Go.Lib in
theorem Tryd.strings_Count_shaped (s sub : ByteArray) (w : World) (h : w.ShapedOpen Tryd.prog) (hs : s.size < 4294967281) (h2 : 2 ≤ sub.size) :
    Calls Tryd.prog 145 #[.string s, .string sub] w fun e w' => e = .returned (.int .i64 (Lib.countB s sub)) ∧ w' = w := Any.strings_Count_shaped Tryd.laysM138 s sub w h hs h2
def Tryd.lays222_ren : Go.Shelf.Ren := ⟨fun | 222 => 141 | n => n, fun | 9 => 9 | 5 => 5 | 3 => 3 | 4 => 4 | n => n, fun | n => n⟩
theorem Tryd.lays222 : Go.Proofs.Lays.n222 Tryd.prog Tryd.lays222_ren := {
  mixed := by kernel_rfl
  f222 := Tryd.func141.trans (congrArg some (by kernel_rfl))
  t3 := Tryd.underlying3
  a3 := Tryd.isAgg3
  z3 := Tryd.sizeOf3
  v3 := Tryd.zeroValue3
  t4 := Tryd.underlying4
  a4 := Tryd.isAgg4
  z4 := Tryd.sizeOf4
  v4 := Tryd.zeroValue4
  t5 := Tryd.underlying5
  a5 := Tryd.isAgg5
  z5 := Tryd.sizeOf5
  v5 := Tryd.zeroValue5
  t9 := Tryd.underlying9
  a9 := Tryd.isAgg9
  z9 := Tryd.sizeOf9
  v9 := Tryd.zeroValue9 }
open Go.RowKit Go.Lib in
/-- internal/bytealg.LastIndexByteString: 'for i := len(s) - 1; i >= 0; i-- { if s[i] == c { return i } }; return -1'. (LAID: no walk: one application.) -/
theorem Tryd.bytealg_LastIndexByteString_nm (s : ByteArray) (c : Int) (hs : s.size < 4611686018427387904) (w : World) :
    Calls Tryd.prog 141 #[.string s, .int .u8 c] w fun e w' => e = .returned (.int .i64 (Lib.lastIndexByte s c)) ∧ w' = w := Any.bytealg_LastIndexByteString_nm Tryd.lays222 s c hs w
def Tryd.lays149_ren : Go.Shelf.Ren := ⟨fun | 149 => 123 | 222 => 141 | n => n, fun | 9 => 9 | 5 => 5 | 3 => 3 | 4 => 4 | n => n, fun | n => n⟩
theorem Tryd.lays149 : Go.Proofs.Lays.n149 Tryd.prog Tryd.lays149_ren := {
  mixed := by kernel_rfl
  f149 := Tryd.func123.trans (congrArg some (by kernel_rfl))
  f222 := Tryd.func141.trans (congrArg some (by kernel_rfl))
  t3 := Tryd.underlying3
  a3 := Tryd.isAgg3
  z3 := Tryd.sizeOf3
  v3 := Tryd.zeroValue3
  t4 := Tryd.underlying4
  a4 := Tryd.isAgg4
  z4 := Tryd.sizeOf4
  v4 := Tryd.zeroValue4
  t5 := Tryd.underlying5
  a5 := Tryd.isAgg5
  z5 := Tryd.sizeOf5
  v5 := Tryd.zeroValue5
  t9 := Tryd.underlying9
  a9 := Tryd.isAgg9
  z9 := Tryd.sizeOf9
  v9 := Tryd.zeroValue9 }
open Go.RowKit Go.Lib in
/-- strings.LastIndexByte: "LastIndexByte returns the index of the last instance of c in s, or -1 if c is not present in s." (LAID: no walk: one application.) -/
theorem Tryd.strings_LastIndexByte (s : ByteArray) (c : Int) (hs : s.size < 4611686018427387904) (w : World) :
    Calls Tryd.prog 123 #[.string s, .int .u8 c] w fun e w' => e = .returned (.int .i64 (Lib.lastIndexByte s c)) ∧ w' = w := Any.strings_LastIndexByte Tryd.lays149 s c hs w
def Tryd.lays315_ren : Go.Shelf.Ren := ⟨fun | 315 => 143 | n => n, fun | 9 => 9 | 40 => 146 | 4 => 4 | 3 => 3 | 0 => 0 | 21 => 21 | n => n, fun | n => n⟩
theorem Tryd.lays315 : Go.Proofs.Lays.n315 Tryd.prog Tryd.lays315_ren := {
  mixed := by kernel_rfl
  f315 := Tryd.func143.trans (congrArg some (by kernel_rfl))
  t0 := Tryd.underlying0
  a0 := Tryd.isAgg0
  z0 := Tryd.sizeOf0
  v0 := Tryd.zeroValue0
  t3 := Tryd.underlying3
  a3 := Tryd.isAgg3
  z3 := Tryd.sizeOf3
  v3 := Tryd.zeroValue3
  t4 := Tryd.underlying4
  a4 := Tryd.isAgg4
  z4 := Tryd.sizeOf4
  v4 := Tryd.zeroValue4
  t9 := Tryd.underlying9
  a9 := Tryd.isAgg9
  z9 := Tryd.sizeOf9
  v9 := Tryd.zeroValue9
  t21 := Tryd.underlying21
  a21 := Tryd.isAgg21
  z21 := Tryd.sizeOf21
  v21 := Tryd.zeroValue21
  t40 := Tryd.underlying146
  a40 := Tryd.isAgg146
  z40 := Tryd.sizeOf146
  v40 := Tryd.zeroValue146 }
open Go.RowKit Go.Lib in
theorem Tryd.strings_indexFunc (g : Nat) (lb : Array Value) (eg : ∀ args w, (callFunc g args).run Tryd.prog w = .ok (.enter g args) w) (p : Nat → Bool) (truth : Bool) (s : ByteArray) (w : World) (hp : PredAt Tryd.prog g lb encR p w) :
    Calls Tryd.prog 143 #[.string s, .func (.func g) #[] lb, .bool truth] w fun e w' => e = .returned (.int .i64 (Lib.idxFunc p truth s)) ∧ Below w.heap.size w w' := Any.strings_indexFunc Tryd.lays315 g lb eg p truth s w hp
def Tryd.laysGw15_ren : Go.Shelf.Ren := ⟨fun | 15 => 130 | 20 => 143 | n => n, fun | 9 => 9 | 23 => 146 | 3 => 3 | 4 => 4 | 0 => 0 | 21 => 21 | n => n, fun | n => n⟩
theorem Tryd.laysGw15 : Go.Proofs.LaysGw.n15 Tryd.prog Tryd.laysGw15_ren := {
  mixed := by kernel_rfl
  f15 := Tryd.func130.trans (congrArg some (by kernel_rfl))
  f20 := Tryd.func143.trans (congrArg some (by kernel_rfl))
  t0 := Tryd.underlying0
  a0 := Tryd.isAgg0
  z0 := Tryd.sizeOf0
  v0 := Tryd.zeroValue0
  i0 := by kernel_rfl
  t3 := Tryd.underlying3
  a3 := Tryd.isAgg3
  z3 := Tryd.sizeOf3
  v3 := Tryd.zeroValue3
  i3 := by kernel_rfl
  t4 := Tryd.underlying4
  a4 := Tryd.isAgg4
  z4 := Tryd.sizeOf4
  v4 := Tryd.zeroValue4
  i4 := by kernel_rfl
  t9 := Tryd.underlying9
  a9 := Tryd.isAgg9
  z9 := Tryd.sizeOf9
  v9 := Tryd.zeroValue9
  i9 := by kernel_rfl
  t21 := Tryd.underlying21
  a21 := Tryd.isAgg21
  z21 := Tryd.sizeOf21
  v21 := Tryd.zeroValue21
  i21 := by kernel_rfl
  t23 := Tryd.underlying146
  a23 := Tryd.isAgg146
  z23 := Tryd.sizeOf146
  v23 := Tryd.zeroValue146
  i23 := by kernel_rfl }
open Go.RowKit Go.Lib in
theorem Tryd.strings_IndexFunc (g : Nat) (lb : Array Value) (eg : ∀ args w, (callFunc g args).run Tryd.prog w = .ok (.enter g args) w) (p : Nat → Bool) (s : ByteArray) (w : World) (hp : PredAt Tryd.prog g lb encR p w) :
    Calls Tryd.prog 130 #[.string s, .func (.func g) #[] lb] w fun e w' => e = .returned (.int .i64 (Lib.idxFunc p true s)) ∧ Below w.heap.size w w' := Any.strings_IndexFunc Tryd.laysGw15 g lb eg p s w hp
open Go.RowKit Go.Lib in
theorem Tryd.strings_indexFunc_runes (g : Nat) (lb : Array Value) (eg : ∀ args w, (callFunc g args).run Tryd.prog w = .ok (.enter g args) w) (p : Nat → Bool) (truth : Bool) (s : ByteArray) (w : World) (hp : PredAtRunes Tryd.prog g lb p w) :
    Calls Tryd.prog 143 #[.string s, .func (.func g) #[] lb, .bool truth] w fun e w' => e = .returned (.int .i64 (Lib.idxFunc p truth s)) ∧ Below w.heap.size w w' := Any.strings_indexFunc_runes Tryd.lays315 g lb eg p truth s w hp
open Go.RowKit Go.Lib in
theorem Tryd.strings_IndexFunc_runes (g : Nat) (lb : Array Value) (eg : ∀ args w, (callFunc g args).run Tryd.prog w = .ok (.enter g args) w) (p : Nat → Bool) (s : ByteArray) (w : World) (hp : PredAtRunes Tryd.prog g lb p w) :
    Calls Tryd.prog 130 #[.string s, .func (.func g) #[] lb] w fun e w' => e = .returned (.int .i64 (Lib.idxFunc p true s)) ∧ Below w.heap.size w w' := Any.strings_IndexFunc_runes Tryd.laysGw15 g lb eg p s w hp
open Go.RowKit Go.Lib in
/-- strings.Count at whatever sep that is not empty: the two roads under one statement. (LAID: no walk: one application.) -/
theorem Tryd.strings_Count_any (s sep : ByteArray) (m : Int) (w : World) (hs : s.size < 4294967281) (hm : w.cell? ⟨0, 0, none⟩ = some (.int .i64 m)) (h1 : 1 ≤ sep.size) :
    Calls Tryd.prog 145 #[.string s, .string sep] w fun e w' => e = .returned (.int .i64 (Lib.countB s sep)) ∧ w' = w := Any.strings_Count_any Tryd.lays138 s sep m w hs hm h1
def Tryd.lays221_ren : Go.Shelf.Ren := ⟨fun | 221 => 132 | 268 => 144 | 138 => 145 | 143 => 146 | 195 => 151 | 197 => 152 | 218 => 153 | 219 => 150 | 260 => 159 | 217 => 155 | 225 => 156 | 224 => 157 | 267 => 158 | 266 => 160 | 314 => 161 | n => n, fun | 9 => 9 | 3 => 3 | 31 => 57 | 4 => 4 | 0 => 0 | 105 => 161 | 21 => 21 | 5 => 5 | 46 => 124 | 119 => 166 | 139 => 169 | 138 => 168 | 146 => 164 | 51 => 127 | n => n, fun | 1 => 0 | 3 => 2 | 4 => 3 | n => n⟩
theorem Tryd.lays221 : Go.Proofs.Lays.n221 Tryd.prog Tryd.lays221_ren := {
  mixed := by kernel_rfl
  f138 := Tryd.func145.trans (congrArg some (by kernel_rfl))
  f143 := Tryd.func146.trans (congrArg some (by kernel_rfl))
  f195 := Tryd.func151.trans (congrArg some (by kernel_rfl))
  f197 := Tryd.func152.trans (congrArg some (by kernel_rfl))
  f217 := Tryd.func155.trans (congrArg some (by kernel_rfl))
  f218 := Tryd.func153.trans (congrArg some (by kernel_rfl))
  f219 := Tryd.func150.trans (congrArg some (by kernel_rfl))
  f221 := Tryd.func132.trans (congrArg some (by kernel_rfl))
  f224 := Tryd.func157.trans (congrArg some (by kernel_rfl))
  f225 := Tryd.func156.trans (congrArg some (by kernel_rfl))
  f260 := Tryd.func159.trans (congrArg some (by kernel_rfl))
  f266 := Tryd.func160.trans (congrArg some (by kernel_rfl))
  f267 := Tryd.func158.trans (congrArg some (by kernel_rfl))
  f268 := Tryd.func144.trans (congrArg some (by kernel_rfl))
  f314 := Tryd.func161.trans (congrArg some (by kernel_rfl))
  t0 := Tryd.underlying0
  a0 := Tryd.isAgg0
  z0 := Tryd.sizeOf0
  v0 := Tryd.zeroValue0
  t3 := Tryd.underlying3
  a3 := Tryd.isAgg3
  z3 := Tryd.sizeOf3
  v3 := Tryd.zeroValue3
  t4 := Tryd.underlying4
  a4 := Tryd.isAgg4
  z4 := Tryd.sizeOf4
  v4 := Tryd.zeroValue4
  t5 := Tryd.underlying5
  a5 := Tryd.isAgg5
  z5 := Tryd.sizeOf5
  v5 := Tryd.zeroValue5
  t9 := Tryd.underlying9
  a9 := Tryd.isAgg9
  z9 := Tryd.sizeOf9
  v9 := Tryd.zeroValue9
  t21 := Tryd.underlying21
  a21 := Tryd.isAgg21
  z21 := Tryd.sizeOf21
  v21 := Tryd.zeroValue21
  t31 := Tryd.underlying57
  a31 := Tryd.isAgg57
  z31 := Tryd.sizeOf57
  v31 := Tryd.zeroValue57
  t46 := Tryd.underlying124
  a46 := Tryd.isAgg124
  z46 := Tryd.sizeOf124
  v46 := Tryd.zeroValue124
  t51 := Tryd.underlying127
  a51 := Tryd.isAgg127
  z51 := Tryd.sizeOf127
  v51 := Tryd.zeroValue127
  t105 := Tryd.underlying161
  a105 := Tryd.isAgg161
  z105 := Tryd.sizeOf161
  v105 := Tryd.zeroValue161
  t119 := Tryd.underlying166
  a119 := Tryd.isAgg166
  z119 := Tryd.sizeOf166
  t138 := Tryd.underlying168
  a138 := Tryd.isAgg168
  z138 := Tryd.sizeOf168
  v138 := Tryd.zeroValue168
  t139 := Tryd.underlying169
  a139 := Tryd.isAgg169
  z139 := Tryd.sizeOf169
  v139 := Tryd.zeroValue169
  t146 := Tryd.underlying164
  a146 := Tryd.isAgg164
  z146 := Tryd.sizeOf164
  v146 := Tryd.zeroValue164
  g1 := by kernel_rfl
  g3 := by kernel_rfl
  g4 := by kernel_rfl }
open Go.RowKit Go.Lib in
theorem Tryd.strings_genSplit (s sep : ByteArray) (sv : Nat) (n : Int) (N : Nat) (m : Int) (w : World) (hs : s.size < 4294967281) (hm : w.cell? ⟨0, 0, none⟩ = some (.int .i64 m)) (h1 : 1 ≤ sep.size) (hsv : sv ≤ sep.size) (hn0 : n ≠ 0) (hn63 : n ≤ 9223372036854775807) (hN : (N : Int) = min (if n < 0 then (Lib.countB s sep : Int) + 1 else n) ((s.size : Int) + 1)) :
    Calls Tryd.prog 132 #[.string s, .string sep, .int .i64 sv, .int .i64 n] w fun e w' =>
      e = .returned (.slice (some ⟨w.heap.size, 0, none⟩) (Lib.splitB sep sv (N - 1) s).length N) ∧ w' = w.alloc (.cells (Lib.cellsOf (Lib.splitB sep sv (N - 1) s) N) 9) := Any.strings_genSplit Tryd.lays221 (by kernel_rfl) s sep sv n N m w hs hm h1 hsv hn0 hn63 hN
def Tryd.lays146_ren : Go.Shelf.Ren := ⟨fun | 146 => 103 | 221 => 132 | 268 => 144 | 138 => 145 | 143 => 146 | 195 => 151 | 197 => 152 | 218 => 153 | 219 => 150 | 260 => 159 | 217 => 155 | 225 => 156 | 224 => 157 | 267 => 158 | 266 => 160 | 314 => 161 | n => n, fun | 9 => 9 | 31 => 57 | 3 => 3 | 4 => 4 | 0 => 0 | 105 => 161 | 21 => 21 | 5 => 5 | 46 => 124 | 119 => 166 | 139 => 169 | 138 => 168 | 146 => 164 | 51 => 127 | n => n, fun | 1 => 0 | 3 => 2 | 4 => 3 | n => n⟩
theorem Tryd.lays146 : Go.Proofs.Lays.n146 Tryd.prog Tryd.lays146_ren := {
  mixed := by kernel_rfl
  f138 := Tryd.func145.trans (congrArg some (by kernel_rfl))
  f143 := Tryd.func146.trans (congrArg some (by kernel_rfl))
  f146 := Tryd.func103.trans (congrArg some (by kernel_rfl))
  f195 := Tryd.func151.trans (congrArg some (by kernel_rfl))
  f197 := Tryd.func152.trans (congrArg some (by kernel_rfl))
  f217 := Tryd.func155.trans (congrArg some (by kernel_rfl))
  f218 := Tryd.func153.trans (congrArg some (by kernel_rfl))
  f219 := Tryd.func150.trans (congrArg some (by kernel_rfl))
  f221 := Tryd.func132.trans (congrArg some (by kernel_rfl))
  f224 := Tryd.func157.trans (congrArg some (by kernel_rfl))
  f225 := Tryd.func156.trans (congrArg some (by kernel_rfl))
  f260 := Tryd.func159.trans (congrArg some (by kernel_rfl))
  f266 := Tryd.func160.trans (congrArg some (by kernel_rfl))
  f267 := Tryd.func158.trans (congrArg some (by kernel_rfl))
  f268 := Tryd.func144.trans (congrArg some (by kernel_rfl))
  f314 := Tryd.func161.trans (congrArg some (by kernel_rfl))
  t0 := Tryd.underlying0
  a0 := Tryd.isAgg0
  z0 := Tryd.sizeOf0
  v0 := Tryd.zeroValue0
  t3 := Tryd.underlying3
  a3 := Tryd.isAgg3
  z3 := Tryd.sizeOf3
  v3 := Tryd.zeroValue3
  t4 := Tryd.underlying4
  a4 := Tryd.isAgg4
  z4 := Tryd.sizeOf4
  v4 := Tryd.zeroValue4
  t5 := Tryd.underlying5
  a5 := Tryd.isAgg5
  z5 := Tryd.sizeOf5
  v5 := Tryd.zeroValue5
  t9 := Tryd.underlying9
  a9 := Tryd.isAgg9
  z9 := Tryd.sizeOf9
  v9 := Tryd.zeroValue9
  t21 := Tryd.underlying21
  a21 := Tryd.isAgg21
  z21 := Tryd.sizeOf21
  v21 := Tryd.zeroValue21
  t31 := Tryd.underlying57
  a31 := Tryd.isAgg57
  z31 := Tryd.sizeOf57
  v31 := Tryd.zeroValue57
  t46 := Tryd.underlying124
  a46 := Tryd.isAgg124
  z46 := Tryd.sizeOf124
  v46 := Tryd.zeroValue124
  t51 := Tryd.underlying127
  a51 := Tryd.isAgg127
  z51 := Tryd.sizeOf127
  v51 := Tryd.zeroValue127
  t105 := Tryd.underlying161
  a105 := Tryd.isAgg161
  z105 := Tryd.sizeOf161
  v105 := Tryd.zeroValue161
  t119 := Tryd.underlying166
  a119 := Tryd.isAgg166
  z119 := Tryd.sizeOf166
  t138 := Tryd.underlying168
  a138 := Tryd.isAgg168
  z138 := Tryd.sizeOf168
  v138 := Tryd.zeroValue168
  t139 := Tryd.underlying169
  a139 := Tryd.isAgg169
  z139 := Tryd.sizeOf169
  v139 := Tryd.zeroValue169
  t146 := Tryd.underlying164
  a146 := Tryd.isAgg164
  z146 := Tryd.sizeOf164
  v146 := Tryd.zeroValue164
  g1 := by kernel_rfl
  g3 := by kernel_rfl
  g4 := by kernel_rfl }
open Go.RowKit Go.Lib in
/-- strings.Split. (LAID: no walk: one application.) -/
theorem Tryd.strings_Split (s sep : ByteArray) (m : Int) (w : World) (hs : s.size < 4294967281) (hm : w.cell? ⟨0, 0, none⟩ = some (.int .i64 m)) (h1 : 1 ≤ sep.size) :
    Calls Tryd.prog 103 #[.string s, .string sep] w fun e w' =>
      e = .returned (.slice (some ⟨w.heap.size, 0, none⟩) (Lib.countB s sep + 1) (Lib.countB s sep + 1)) ∧ w' = w.alloc (.cells ((Lib.splitB sep 0 (Lib.countB s sep) s).map Value.string).toArray 9) := Any.strings_Split Tryd.lays146 (by kernel_rfl) s sep m w hs hm h1
def Tryd.lays197_ren : Go.Shelf.Ren := ⟨fun | 197 => 152 | 260 => 159 | n => n, fun | 9 => 9 | 21 => 21 | 3 => 3 | 4 => 4 | 5 => 5 | 105 => 161 | 119 => 166 | 0 => 0 | 46 => 124 | 139 => 169 | 138 => 168 | n => n, fun | 3 => 2 | 4 => 3 | n => n⟩
theorem Tryd.lays197 : Go.Proofs.Lays.n197 Tryd.prog Tryd.lays197_ren := {
  mixed := by kernel_rfl
  f197 := Tryd.func152.trans (congrArg some (by kernel_rfl))
  f260 := Tryd.func159.trans (congrArg some (by kernel_rfl))
  t0 := Tryd.underlying0
  a0 := Tryd.isAgg0
  z0 := Tryd.sizeOf0
  v0 := Tryd.zeroValue0
  t3 := Tryd.underlying3
  a3 := Tryd.isAgg3
  z3 := Tryd.sizeOf3
  v3 := Tryd.zeroValue3
  t4 := Tryd.underlying4
  a4 := Tryd.isAgg4
  z4 := Tryd.sizeOf4
  v4 := Tryd.zeroValue4
  t5 := Tryd.underlying5
  a5 := Tryd.isAgg5
  z5 := Tryd.sizeOf5
  v5 := Tryd.zeroValue5
  t9 := Tryd.underlying9
  a9 := Tryd.isAgg9
  z9 := Tryd.sizeOf9
  v9 := Tryd.zeroValue9
  t21 := Tryd.underlying21
  a21 := Tryd.isAgg21
  z21 := Tryd.sizeOf21
  v21 := Tryd.zeroValue21
  t46 := Tryd.underlying124
  a46 := Tryd.isAgg124
  z46 := Tryd.sizeOf124
  v46 := Tryd.zeroValue124
  t105 := Tryd.underlying161
  a105 := Tryd.isAgg161
  z105 := Tryd.sizeOf161
  v105 := Tryd.zeroValue161
  t119 := Tryd.underlying166
  a119 := Tryd.isAgg166
  z119 := Tryd.sizeOf166
  t138 := Tryd.underlying168
  a138 := Tryd.isAgg168
  z138 := Tryd.sizeOf168
  v138 := Tryd.zeroValue168
  t139 := Tryd.underlying169
  a139 := Tryd.isAgg169
  z139 := Tryd.sizeOf169
  v139 := Tryd.zeroValue169
  g3 := by kernel_rfl
  g4 := by kernel_rfl }
open Go.RowKit Go.Lib in
/-- unicode/utf8.DecodeRuneInString: "DecodeRuneInString is like DecodeRune but its input is a string.": ("DecodeRune unpacks the first UTF-8 encoding in p and returns the rune and its width in bytes."): WHERE s BEGINS WITH AN ASCII BYTE x: (x, 1). (LAID: no walk: one application.) -/
theorem Tryd.utf8_DecodeRuneInString_ascii (s : ByteArray) (x : UInt8) (w : World) (h0 : s.data.toList[0]? = some x) (hx : x.toNat < 128) :
    Calls Tryd.prog 152 #[.string s] w fun e w' => e = .returned (.tuple #[.int .i32 x.toNat, .int .i64 1]) ∧ w' = w := Any.utf8_DecodeRuneInString_ascii Tryd.lays197 s x w h0 hx
def Tryd.lays195_ren : Go.Shelf.Ren := ⟨fun | 195 => 151 | n => n, fun | 9 => 9 | 3 => 3 | 0 => 0 | 4 => 4 | n => n, fun | n => n⟩
theorem Tryd.lays195 : Go.Proofs.Lays.n195 Tryd.prog Tryd.lays195_ren := {
  mixed := by kernel_rfl
  f195 := Tryd.func151.trans (congrArg some (by kernel_rfl))
  t0 := Tryd.underlying0
  a0 := Tryd.isAgg0
  z0 := Tryd.sizeOf0
  v0 := Tryd.zeroValue0
  t3 := Tryd.underlying3
  a3 := Tryd.isAgg3
  z3 := Tryd.sizeOf3
  v3 := Tryd.zeroValue3
  t4 := Tryd.underlying4
  a4 := Tryd.isAgg4
  z4 := Tryd.sizeOf4
  v4 := Tryd.zeroValue4
  t9 := Tryd.underlying9
  a9 := Tryd.isAgg9
  z9 := Tryd.sizeOf9
  v9 := Tryd.zeroValue9 }
open Go.RowKit Go.Lib in
theorem Tryd.utf8_RuneCountInString_ascii (s : ByteArray) (w : World) (hs : s.size < 4294967281) (hascii : ∀ (j : Nat) b, s.data.toList[j]? = some b → b.toNat < 128) :
    Calls Tryd.prog 151 #[.string s] w fun e w' => e = .returned (.int .i64 s.size) ∧ w' = w.iter s s.size := Any.utf8_RuneCountInString_ascii Tryd.lays195 s w hs hascii
def Tryd.lays268_ren : Go.Shelf.Ren := ⟨fun | 268 => 144 | 195 => 151 | 197 => 152 | 260 => 159 | n => n, fun | 9 => 9 | 3 => 3 | 31 => 57 | 4 => 4 | 105 => 161 | 21 => 21 | 0 => 0 | 5 => 5 | 119 => 166 | 46 => 124 | 139 => 169 | 138 => 168 | n => n, fun | 3 => 2 | 4 => 3 | n => n⟩
theorem Tryd.lays268 : Go.Proofs.Lays.n268 Tryd.prog Tryd.lays268_ren := {
  mixed := by kernel_rfl
  f195 := Tryd.func151.trans (congrArg some (by kernel_rfl))
  f197 := Tryd.func152.trans (congrArg some (by kernel_rfl))
  f260 := Tryd.func159.trans (congrArg some (by kernel_rfl))
  f268 := Tryd.func144.trans (congrArg some (by kernel_rfl))
  t0 := Tryd.underlying0
  a0 := Tryd.isAgg0
  z0 := Tryd.sizeOf0
  v0 := Tryd.zeroValue0
  t3 := Tryd.underlying3
  a3 := Tryd.isAgg3
  z3 := Tryd.sizeOf3
  v3 := Tryd.zeroValue3
  t4 := Tryd.underlying4
  a4 := Tryd.isAgg4
  z4 := Tryd.sizeOf4
  v4 := Tryd.zeroValue4
  t5 := Tryd.underlying5
  a5 := Tryd.isAgg5
  z5 := Tryd.sizeOf5
  v5 := Tryd.zeroValue5
  t9 := Tryd.underlying9
  a9 := Tryd.isAgg9
  z9 := Tryd.sizeOf9
  v9 := Tryd.zeroValue9
  t21 := Tryd.underlying21
  a21 := Tryd.isAgg21
  z21 := Tryd.sizeOf21
  v21 := Tryd.zeroValue21
  t31 := Tryd.underlying57
  a31 := Tryd.isAgg57
  z31 := Tryd.sizeOf57
  v31 := Tryd.zeroValue57
  t46 := Tryd.underlying124
  a46 := Tryd.isAgg124
  z46 := Tryd.sizeOf124
  v46 := Tryd.zeroValue124
  t105 := Tryd.underlying161
  a105 := Tryd.isAgg161
  z105 := Tryd.sizeOf161
  v105 := Tryd.zeroValue161
  t119 := Tryd.underlying166
  a119 := Tryd.isAgg166
  z119 := Tryd.sizeOf166
  t138 := Tryd.underlying168
  a138 := Tryd.isAgg168
  z138 := Tryd.sizeOf168
  v138 := Tryd.zeroValue168
  t139 := Tryd.underlying169
  a139 := Tryd.isAgg169
  z139 := Tryd.sizeOf169
  v139 := Tryd.zeroValue169
  g3 := by kernel_rfl
  g4 := by kernel_rfl }
open Go.RowKit Go.Lib in
theorem Tryd.strings_explode_all (s : ByteArray) (n : Int) (w : World) (hn : n < 0) (hs : s.size < 4294967281) (hascii : ∀ (j : Nat) b, s.data.toList[j]? = some b → b.toNat < 128) :
    Calls Tryd.prog 144 #[.string s, .int .i64 n] w fun e w' =>
      e = .returned (.slice (some ⟨(w.iter s s.size).heap.size, 0, none⟩) s.size s.size) ∧ w' = (w.iter s s.size).alloc (.cells ((Lib.charsB s).map Value.string).toArray 9) := Any.strings_explode_all Tryd.lays268 (by kernel_rfl) s n w hn hs hascii
open Go.RowKit Go.Lib in
/-- strings.genSplit at sep == "", n < 0: 'return explode(s, n)'. (LAID: no walk: one application.) -/
theorem Tryd.strings_genSplit_chars (s sep : ByteArray) (sv n : Int) (w : World) (h0 : sep.size = 0) (hn : n < 0) (hs : s.size < 4294967281) (hascii : ∀ (j : Nat) b, s.data.toList[j]? = some b → b.toNat < 128) :
    Calls Tryd.prog 132 #[.string s, .string sep, .int .i64 sv, .int .i64 n] w fun e w' =>
      e = .returned (.slice (some ⟨(w.iter s s.size).heap.size, 0, none⟩) s.size s.size) ∧ w' = (w.iter s s.size).alloc (.cells ((Lib.charsB s).map Value.string).toArray 9) := Any.strings_genSplit_chars Tryd.lays221 (by kernel_rfl) s sep sv n w h0 hn hs hascii
open Go.RowKit Go.Lib in
/-- strings.Split(s, ""), s ASCII: a piece a byte. (LAID: no walk: one application.) -/
theorem Tryd.strings_Split_chars (s sep : ByteArray) (w : World) (h0 : sep.size = 0) (hs : s.size < 4294967281) (hascii : ∀ (j : Nat) b, s.data.toList[j]? = some b → b.toNat < 128) :
    Calls Tryd.prog 103 #[.string s, .string sep] w fun e w' =>
      e = .returned (.slice (some ⟨(w.iter s s.size).heap.size, 0, none⟩) s.size s.size) ∧ w' = (w.iter s s.size).alloc (.cells ((Lib.charsB s).map Value.string).toArray 9) := Any.strings_Split_chars Tryd.lays146 (by kernel_rfl) s sep w h0 hs hascii
def Tryd.lays260_ren : Go.Shelf.Ren := ⟨fun | 260 => 159 | n => n, fun | 9 => 9 | 21 => 21 | 3 => 3 | 4 => 4 | 5 => 5 | 119 => 166 | 0 => 0 | 46 => 124 | 139 => 169 | 138 => 168 | n => n, fun | 3 => 2 | 4 => 3 | n => n⟩
theorem Tryd.lays260 : Go.Proofs.Lays.n260 Tryd.prog Tryd.lays260_ren := {
  mixed := by kernel_rfl
  f260 := Tryd.func159.trans (congrArg some (by kernel_rfl))
  t0 := Tryd.underlying0
  a0 := Tryd.isAgg0
  z0 := Tryd.sizeOf0
  v0 := Tryd.zeroValue0
  t3 := Tryd.underlying3
  a3 := Tryd.isAgg3
  z3 := Tryd.sizeOf3
  v3 := Tryd.zeroValue3
  t4 := Tryd.underlying4
  a4 := Tryd.isAgg4
  z4 := Tryd.sizeOf4
  v4 := Tryd.zeroValue4
  t5 := Tryd.underlying5
  a5 := Tryd.isAgg5
  z5 := Tryd.sizeOf5
  v5 := Tryd.zeroValue5
  t9 := Tryd.underlying9
  a9 := Tryd.isAgg9
  z9 := Tryd.sizeOf9
  v9 := Tryd.zeroValue9
  t21 := Tryd.underlying21
  a21 := Tryd.isAgg21
  z21 := Tryd.sizeOf21
  v21 := Tryd.zeroValue21
  t46 := Tryd.underlying124
  a46 := Tryd.isAgg124
  z46 := Tryd.sizeOf124
  v46 := Tryd.zeroValue124
  t119 := Tryd.underlying166
  a119 := Tryd.isAgg166
  z119 := Tryd.sizeOf166
  t138 := Tryd.underlying168
  a138 := Tryd.isAgg168
  z138 := Tryd.sizeOf168
  v138 := Tryd.zeroValue168
  t139 := Tryd.underlying169
  a139 := Tryd.isAgg169
  z139 := Tryd.sizeOf169
  v139 := Tryd.zeroValue169
  g3 := by kernel_rfl
  g4 := by kernel_rfl }
open Go.RowKit Go.Lib in
theorem Tryd.utf8_decodeRuneInStringSlow (s : ByteArray) (w : World) (hT : Lib.Utf8Tabs 2 3 w) :
    Calls Tryd.prog 159 #[.string s] w fun e w' => e = .returned (.tuple #[.int .i32 (Lib.decodeGo s).1, .int .i64 (Lib.decodeGo s).2]) ∧ Below w.heap.size w w' := Any.utf8_decodeRuneInStringSlow Tryd.lays260 s w hT
open Go.RowKit Go.Lib in
/-- **unicode/utf8.DecodeRuneInString AT EVERY STRING.** (LAID: no walk: one application.) -/
theorem Tryd.utf8_DecodeRuneInString (s : ByteArray) (w : World) (hT : Lib.Utf8Tabs 2 3 w) :
    Calls Tryd.prog 152 #[.string s] w fun e w' => e = .returned (.tuple #[.int .i32 (Lib.decodeGo s).1, .int .i64 (Lib.decodeGo s).2]) ∧ Below w.heap.size w w' := Any.utf8_DecodeRuneInString Tryd.lays197 s w hT
open Go.RowKit Go.Lib in
theorem Tryd.strings_indexFunc_grows (g : Nat) (lb : Array Value) (eg : ∀ args w, (callFunc g args).run Tryd.prog w = .ok (.enter g args) w) (p : Nat → Bool) (truth : Bool) (s : ByteArray) (w : World) (hp : PredGrows Tryd.prog g lb p w) :
    Calls Tryd.prog 143 #[.string s, .func (.func g) #[] lb, .bool truth] w fun e w' => e = .returned (.int .i64 (Lib.idxFunc p truth s)) ∧ Below w.heap.size w w' := Any.strings_indexFunc_grows Tryd.lays315 g lb eg p truth s w hp
open Go.RowKit Go.Lib in
theorem Tryd.strings_IndexFunc_grows (g : Nat) (lb : Array Value) (eg : ∀ args w, (callFunc g args).run Tryd.prog w = .ok (.enter g args) w) (p : Nat → Bool) (s : ByteArray) (w : World) (hp : PredGrows Tryd.prog g lb p w) :
    Calls Tryd.prog 130 #[.string s, .func (.func g) #[] lb] w fun e w' => e = .returned (.int .i64 (Lib.idxFunc p true s)) ∧ Below w.heap.size w w' := Any.strings_IndexFunc_grows Tryd.laysGw15 g lb eg p s w hp
def Tryd.laysPa45_ren : Go.Shelf.Ren := ⟨fun | 45 => 141 | n => n, fun | 9 => 9 | 5 => 5 | 3 => 3 | 4 => 4 | n => n, fun | n => n⟩
theorem Tryd.laysPa45 : Go.Proofs.Lays.p45 Tryd.prog Tryd.laysPa45_ren := {
  mixed := by kernel_rfl
  f45 := Tryd.func141.trans (congrArg some (by kernel_rfl))
  t3 := Tryd.underlying3
  a3 := Tryd.isAgg3
  z3 := Tryd.sizeOf3
  v3 := Tryd.zeroValue3
  t4 := Tryd.underlying4
  a4 := Tryd.isAgg4
  z4 := Tryd.sizeOf4
  v4 := Tryd.zeroValue4
  t5 := Tryd.underlying5
  a5 := Tryd.isAgg5
  z5 := Tryd.sizeOf5
  v5 := Tryd.zeroValue5
  t9 := Tryd.underlying9
  a9 := Tryd.isAgg9
  z9 := Tryd.sizeOf9
  v9 := Tryd.zeroValue9 }
open Go.RowKit Go.Lib in
/-- internal/bytealg.LastIndexByteString (what strings.LastIndexByte calls: "LastIndexByte returns the index of the last instance of c in s, or -1 if c is not present in s."): IT RETURNS 'Pa.lastIndexByte s c'; the world is as it was. (LAID: no walk: one application.) -/
theorem Tryd.bytealg_LastIndexByteString (s : ByteArray) (c : UInt8) (w : World) (hs : s.size ≤ 9223372036854775807) :
    Calls Tryd.prog 141 #[.string s, .int .u8 c.toNat] w fun e w' => e = .returned (.int .i64 (Pa.lastIndexByte s.data.toList c)) ∧ w' = w := Any.bytealg_LastIndexByteString Tryd.laysPa45 s c w hs
end Go.Proofs
end
