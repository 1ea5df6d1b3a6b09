import Derived.Test.YtmlbfepibfobaaaDoorMgWireStays0
import Derived.Test.YtmlbfepibfobaaaDoorProg
import Derived.Below
import Derived.Deep.Draws
import Derived.Deep.AppendLies
import Derived.Maps.AppendAt
import Derived.OwnWalk
import Derived.Laws.BytesArg
import Derived.Laws.MakeOwn
import Derived.Laws.OwnMore
import Derived.Deep.OwnRows
import Derived.Tactics
import Derived.Lib.ConvBytes
import Derived.Laws.Slices
import Derived.WalkKit
import Derived.KernelRfl
import Derived.RowKit3
import Derived.Deep.LoopGhost
import Derived.Deep.QuietTactic
import Derived.BigQuiet
import Derived.WideLaws
import Derived.Deep.DeepCutAuto
import Derived.Deep.CutBlock
import Derived.Deep.RegionHeld3
import Derived.Laws.Rows
import Derived.Lib.AppendStr
import Derived.ArgAppend
import Derived.Laws.IdiomCopy
import Derived.OrdersHeld
import Derived.Laws.BitsLemmas
import Derived.RowKit
import Derived.Test.YtmlbfepibfobaaaDoorWWords
import Derived.Test.YtmlbfepibfobaaaDoorWLast
import Derived.Test.YtmlbfepibfobaaaDoorWTab
import Derived.Test.YtmlbfepibfobaaaDoorWFour
import Derived.Test.YtmlbfepibfobaaaDoorWQPut
import Derived.Test.YtmlbfepibfobaaaDoorWApart
import Derived.Test.YtmlbfepibfobaaaDoorWArr
import Derived.Test.YtmlbfepibfobaaaDoorWZeros
import Derived.Test.YtmlbfepibfobaaaDoorWFoot
import Derived.Test.YtmlbfepibfobaaaDoorWKept
import Derived.Test.YtmlbfepibfobaaaDoorWShare
import Derived.Test.YtmlbfepibfobaaaDoorWN
import Derived.Test.YtmlbfepibfobaaaDoorWFootNe
import Derived.Test.YtmlbfepibfobaaaDoorWAt
import Derived.Test.YtmlbfepibfobaaaDoorWEqStruct
import Derived.Test.YtmlbfepibfobaaaDoorWRepsOne
import Derived.Test.YtmlbfepibfobaaaDoorWInv
import Derived.Test.YtmlbfepibfobaaaDoorWInvWords
import Derived.Test.YtmlbfepibfobaaaDoorWGuard
import Derived.Test.YtmlbfepibfobaaaDoorWNEv
import Derived.Test.YtmlbfepibfobaaaDoorWMore
import Derived.Deep.RegionWith
section
namespace Go.Proofs.YtmlbfepibfobaaaDoor.Hand
open Go.RowKit Go.Proofs.YtmlbfepibfobaaaDoorW.PrintWords Go.Proofs.YtmlbfepibfobaaaDoorW.PrintLast Go.Proofs.YtmlbfepibfobaaaDoorW.PrintMore
set_option linter.unusedVariables false
set_option linter.unusedSimpArgs false

set_option hygiene false in
/-- One operation that yields, taken first: what is asked of a panic there speaks of the defers and of temporary 2 alone. -/
macro "kq " i:num N:num l:term : tactic => `(tactic| (refine take_ (i := $i) (N := some $N) (v := ?_) (a' := ?_) $l rfl rfl (by kernel_rfl) (fun _ _ _ h => ⟨h.1, h.2.1, (by have h2 := h.2.2.1; simpa [Act.put] using h2), h.2.2.2⟩) (Or.inl ⟨by rfl, ?_⟩) hHeld ?_ ?_; rotate_left; rintro w' ⟨s0, s1, s2, s3⟩; go_simp; (try with_reducible rfl); rotate_left; (simp only [Act.put, List.setIfInBounds_toArray, List.set_cons_zero, List.set_cons_succ, i64_w, i32_w]; rfl)))

set_option maxHeartbeats 8000000 in
set_option maxRecDepth 20000 in
theorem wire_End_some (b : Nat) (A : Option Addr) (c : Nat) (l : List Int) (m ix : Nat) (fa : Int) (w : World) (h : RdW w b A c l m ix 0 fa) (hf : RdF b A c l m) (hi : ix = m) :
    Calls Tryd.prog 30 #[.pointer (some ⟨b, 0, none⟩)] w fun x w' => x = .returned (.bool true) ∧ RdW w' b A c l m ix 0 fa ∧ w.grownBy w' (some b) := by
  obtain ⟨c0, c1, c2, c3, c4, f1, f3, f4⟩ := rd_cells h
  have H1 := Aside0.mk (wire_ready b A c l m ix 0 fa w h)
  have HR := Aside0.mk h
  have hd : ((ix : Int) == (m : Int)) = true := by rw [hi]; exact beq_self_eq_true _
  clear h hf
  go_enter_defers Tryd.func30, Tryd.ntmps30
  go_wp2_with (first | (go_at_call 71; refine H1.out.mono ?_; rintro e w1 ⟨rfl, rfl⟩))
  go_quiet ((go_at_call 73; exact Calls.quiet_of_same (wire_unless _ _ _)))
  go_wp2
  refine leaves_cons (f := 72) (args := #[.pointer (some ⟨b, 0, none⟩)]) (by simp) (by simp [go_sem]) ?_
  refine (wire_catch_idle ⟨b, 0, none⟩ _).mono ?_
  rintro e u' w'' ⟨rfl, rfl, rfl⟩
  simp [Leaves, settle, results, Tryd.results30, go_sem]
  exact ⟨rd_below HR.out (pw_below_drewN (Below.refl _ _) _), wgrown_drewN _ _ b⟩

set_option maxHeartbeats 8000000 in
set_option maxRecDepth 20000 in
theorem wire_End_none (b : Nat) (A : Option Addr) (c : Nat) (l : List Int) (m ix : Nat) (fa : Int) (w : World) (h : RdW w b A c l m ix 0 fa) (hf : RdF b A c l m) (hi : ix ≠ m) :
    Calls Tryd.prog 30 #[.pointer (some ⟨b, 0, none⟩)] w fun x w' => x = .returned (.bool false) ∧ RdW w' b A c l m ix 1 ix ∧ w.grownBy w' (some b) := by
  have H1 := Aside0.mk (wire_ready b A c l m ix 0 fa w h)
  have HA := Aside0.mk hf.far
  have hd : ((ix : Int) == (m : Int)) = false := beq_eq_false_iff_ne.2 (by omega)
  have hB := below_drew1 (Below.refl w.heap.size w)
  have h' := rd_below h hB
  obtain ⟨h0, h1, h2, h3, h4, f1, f3, f4⟩ := rd_cells h'
  have hs : w.drew.cell? ⟨b, 1, none⟩ = some (.int .i64 (ix : Int)) ∧ w.drew.cell? ⟨b, 2, none⟩ = some (.int .i64 (m : Int)) ∧ w.grownBy w.drew (some b) ∧ RdW w.drew b A c l m ix 0 fa := ⟨h1, h2, grown_of_below hB _, h'⟩
  clear h0 h1 h2 h3 h4 f1 f3 f4 hB h h' hf
  go_enter_defers Tryd.func30, Tryd.ntmps30
  go_wp2_with (first | (go_at_call 71; refine H1.out.mono ?_; rintro e w1 ⟨rfl, rfl⟩))
  refine Code.wp_mono (Q := fun e a w' => e = .panic (FailE 1 ix) ∧ a.defers = [{ target := Target.fn (Fn.func 72) #[], args := #[.pointer (some ⟨b, 0, none⟩)] }] ∧ a.tmps[2]? = some (.bool false) ∧ RdW w' b A c l m ix 0 fa ∧ w1.grownBy w' (some b)) ?_ ?_
  rotate_left
  refine start_ (n := 14) (S := fun w' => w'.cell? ⟨b, 1, none⟩ = some (.int .i64 (ix : Int)) ∧ w'.cell? ⟨b, 2, none⟩ = some (.int .i64 (m : Int)) ∧ w1.grownBy w' (some b) ∧ RdW w' b A c l m ix 0 fa) (ds := []) #[false, false, false, false, false, false, false, false, false, false, false, false, false, false] (by kernel_rfl) rfl rfl hs (fun hHeld => ?_)
  kq 0 7 #[true, false, false, false, false, false, false, false, false, false, false, false, false, false]
  kq 1 8 #[true, true, false, false, false, false, false, false, false, false, false, false, false, false]
  kq 2 9 #[true, true, true, false, false, false, false, false, false, false, false, false, false, false]
  kq 3 10 #[true, true, true, true, false, false, false, false, false, false, false, false, false, false]
  kq 4 11 #[true, true, true, true, true, false, false, false, false, false, false, false, false, false]
  kq 5 12 #[true, true, true, true, true, true, false, false, false, false, false, false, false, false]
  kq 6 13 #[true, true, true, true, true, true, true, false, false, false, false, false, false, false]
  kq 7 14 #[true, true, true, true, true, true, true, true, false, false, false, false, false, false]
  kq 8 15 #[true, true, true, true, true, true, true, true, true, false, false, false, false, false]
  kq 9 16 #[true, true, true, true, true, true, true, true, true, true, false, false, false, false]
  kq 10 17 #[true, true, true, true, true, true, true, true, true, true, true, false, false, false]
  kq 11 18 #[true, true, true, true, true, true, true, true, true, true, true, true, false, false]
  kq 12 19 #[true, true, true, true, true, true, true, true, true, true, true, true, true, false]
  refine one_ (i := 13) (N := some 20) #[true, true, true, true, true, true, true, true, true, true, true, true, true, true] rfl rfl (by kernel_rfl) (by decide) (fun K hK => ?_)
  refine goesP_ Tryd.func73 (by kernel_rfl) rfl #[.bool false, .int .i64 1, .int .i64 ix] (by rfl) rfl (by simp only [List.map_toArray, List.map_cons, List.map_nil]; rfl) ?_
  refine (wire_unless_not _ _ _).mono ?_
  rintro e w3 ⟨rfl, rfl⟩
  refine ⟨_, rfl, rfl, rfl, rfl, hHeld.2.2.2, hHeld.2.2.1⟩
  rotate_left
  rintro e ⟨tm, df⟩ w3 ⟨rfl, hdf, htm, hr3, hg3⟩
  dsimp only at hdf htm
  subst hdf
  refine leaves_cons (f := 72) (args := #[.pointer (some ⟨b, 0, none⟩)]) (by simp) (by simp [go_sem]) ?_
  refine (wire_catch b A c l m _ _ _ 1 ix [] _ hr3).mono ?_
  rintro e u' w'' ⟨rfl, rfl, k, rfl⟩
  simp [Leaves, settle, results, Tryd.results30, go_sem, htm]
  exact ⟨rd_fell hr3 HA.out 1 ix k, hg3.trans (fell_grown _ b 1 ix k)⟩

set_option maxHeartbeats 8000000 in
set_option maxRecDepth 20000 in
theorem wire_Fault (b : Nat) (A : Option Addr) (c : Nat) (l : List Int) (m ix : Nat) (e fa : Int) (w : World) (h : RdW w b A c l m ix e fa) :
    Calls Tryd.prog 20 #[.pointer (some ⟨b, 0, none⟩)] w fun x w' => x = .returned (.agg #[.int .i64 e, .int .i64 fa]) ∧ Below w.heap.size w w' := by
  have hlt := rd_lt h
  obtain ⟨c0, c1, c2, c3, c4, f1, f3, f4⟩ := rd_cells h
  clear h
  go_enter Tryd.func20, Tryd.ntmps20
  go_wp2
  refine ⟨rfl, .agg #[.int .i64 e, .int .i64 fa], by simp [results, Tryd.results20, go_sem], rfl, ?_⟩
  exact below_alloc (Below.refl _ _) _

set_option maxHeartbeats 8000000 in
set_option maxRecDepth 20000 in
theorem wire_Fault_nil (w : World) :
    Calls Tryd.prog 20 #[.pointer none] w fun x w' => x = .returned (.agg #[.int .i64 7, .int .i64 0]) ∧ Below w.heap.size w w' := by
  go_enter Tryd.func20, Tryd.ntmps20
  go_wp2
  refine ⟨rfl, .agg #[.int .i64 7, .int .i64 0], by simp [results, Tryd.results20, go_sem], rfl, ?_⟩
  exact below_alloc (Below.refl _ _) _

set_option maxHeartbeats 8000000 in
set_option maxRecDepth 20000 in
theorem wire_fault (e fa : Int) (w : World) :
    Calls Tryd.prog 121 #[.int .i64 e, .int .i64 fa] w fun x w' => x = .returned (.agg #[.int .i64 e, .int .i64 (if e = 0 then 0 else fa)]) ∧ Below w.heap.size w w' := by
  by_cases he : e = 0
  · subst he
    go_enter Tryd.func121, Tryd.ntmps121
    go_wp2
    refine ⟨rfl, .agg #[.int .i64 0, .int .i64 0], by simp [results, Tryd.results121, go_sem], rfl, ?_⟩
    exact below_alloc (Below.refl _ _) _
  · rw [if_neg he]
    have he' : (e == 0) = false := beq_eq_false_iff_ne.2 he
    go_enter Tryd.func121, Tryd.ntmps121
    go_wp2
    refine ⟨rfl, .agg #[.int .i64 e, .int .i64 fa], by simp [results, Tryd.results121, go_sem], rfl, ?_⟩
    exact below_alloc (Below.refl _ _) _

set_option maxHeartbeats 8000000 in
set_option maxRecDepth 20000 in
theorem wire_At (b : Nat) (A : Option Addr) (c : Nat) (l : List Int) (m ix : Nat) (e fa : Int) (w : World) (h : RdW w b A c l m ix e fa) :
    Calls Tryd.prog 34 #[.pointer (some ⟨b, 0, none⟩)] w fun x w' => x = .returned (.int .i64 (ix : Int)) ∧ w' = w := by
  obtain ⟨c0, c1, c2, c3, c4, f1, f3, f4⟩ := rd_cells h
  clear h
  go_enter Tryd.func34, Tryd.ntmps34
  go_wp2
  go_ret
  exact ⟨rfl, rfl⟩

set_option maxHeartbeats 8000000 in
set_option maxRecDepth 20000 in
theorem wire_Left (b : Nat) (A : Option Addr) (c : Nat) (l : List Int) (m ix : Nat) (e fa : Int) (w : World) (h : RdW w b A c l m ix e fa) (hm : m ≤ 140737488351232) (hi : ix ≤ m) :
    Calls Tryd.prog 35 #[.pointer (some ⟨b, 0, none⟩)] w fun x w' => x = .returned (.int .i64 (if e = 0 then (m : Int) - ix else 0)) ∧ Drawn0 w w' := by
  have H1 := Aside0.mk (wire_ready b A c l m ix e fa w h)
  obtain ⟨c0, c1, c2, c3, c4, f1, f3, f4⟩ := rd_cells h
  clear h
  by_cases he : e = 0
  · subst he
    have hw0 : IntKind.i64.wrap ((m : Int) - ix) = (m : Int) - ix := IntWalk.i64_in _ ⟨by omega, by omega⟩
    go_enter Tryd.func35, Tryd.ntmps35
    go_wp2_with (go_at_call 71; refine H1.out.mono ?_; rintro e w1 ⟨rfl, rfl⟩)
    go_quiet (fail)
    go_wp2
    go_ret
    exact ⟨rfl, ⟨_, rfl⟩⟩
  · have he' : (e == 0) = false := beq_eq_false_iff_ne.2 he
    rw [if_neg he]
    go_enter Tryd.func35, Tryd.ntmps35
    go_wp2_with (go_at_call 71; refine H1.out.mono ?_; rintro e w1 ⟨rfl, rfl⟩)
    go_ret
    exact ⟨rfl, Drawn0.refl _⟩

set_option maxHeartbeats 8000000 in
set_option maxRecDepth 20000 in
theorem wire_Fail (b : Nat) (A : Option Addr) (c : Nat) (l : List Int) (m ix : Nat) (e fa : Int) (w : World) (h : RdW w b A c l m ix e fa) (hf : RdF b A c l m) (y : Int) :
    Calls Tryd.prog 91 #[.pointer (some ⟨b, 0, none⟩), .int .i64 y] w fun x w' => x = .returned (.tuple #[]) ∧ RdW w' b A c l m ix (if e = 0 then y else e) (if e = 0 then (if y = 0 then 0 else (ix : Int)) else fa) ∧ w.grownBy w' (some b) := by
  have H1 := Aside0.mk (wire_ready b A c l m ix e fa w h)
  have HR := Aside0.mk h
  have HA := Aside0.mk hf.far
  have hlt := rd_lt h
  obtain ⟨c0, c1, c2, c3, c4, f1, f3, f4⟩ := rd_cells h
  clear h hf
  by_cases he : e = 0
  · subst he
    rw [if_pos rfl, if_pos rfl]
    obtain ⟨q, hq⟩ : ∃ q, q = (if y = 0 then 0 else (ix : Int)) := ⟨_, rfl⟩
    rw [← hq]
    have HF : Aside0 (∀ W, Calls Tryd.prog 121 #[.int .i64 y, .int .i64 (ix : Int)] W fun x w' => x = .returned (.agg #[.int .i64 y, .int .i64 q]) ∧ Below W.heap.size W w') := ⟨fun W => by rw [hq]; exact wire_fault y ix W⟩
    clear hq
    go_enter Tryd.func91, Tryd.ntmps91
    go_wp2_with (first | (go_at_call 71; refine H1.out.mono ?_; rintro e w1 ⟨rfl, rfl⟩) | (go_at_call 121; refine (HF.out _).mono ?_; rintro e w2 ⟨rfl, hb2⟩; obtain ⟨d0, d1, d2, d3, d4, g1, g3, g4⟩ := rd_cells (rd_below HR.out hb2)))
    go_end0
    exact ⟨rfl, rd_set4 (rd_set3 (rd_below HR.out hb2) HA.out _) HA.out _, ((grown_of_below hb2 _).trans (wgrown_setCell _ ⟨b, 3, none⟩ _)).trans (wgrown_setCell _ ⟨b, 4, none⟩ _)⟩
  · have he' : (e == 0) = false := beq_eq_false_iff_ne.2 he
    rw [if_neg he, if_neg he]
    go_enter Tryd.func91, Tryd.ntmps91
    go_wp2_with (go_at_call 71; refine H1.out.mono ?_; rintro e w1 ⟨rfl, rfl⟩)
    go_end0
    exact ⟨rfl, HR.out, grown_of_below (Below.refl _ _) _⟩

end Go.Proofs.YtmlbfepibfobaaaDoor.Hand
end

section
namespace Go.Proofs.YtmlbfepibfobaaaDoor.Hand
open Go.RowKit Go.Proofs.YtmlbfepibfobaaaDoorW.PrintWords Go.Proofs.YtmlbfepibfobaaaDoorW.PrintLast Go.Proofs.YtmlbfepibfobaaaDoorW.PrintMore
set_option linter.unusedVariables false
set_option linter.unusedSimpArgs false

theorem C_far {w : World} {A : Option Addr} {n : Nat} {xs : List Int} (h : Kd.C (Kd.int .u8) w A n xs) (hn : 0 < n) : ∀ ad, A = some ad → ad.block < w.heap.size := fun ad e => by
  subst e
  exact Kd.C_lt h hn (by decide)
set_option maxHeartbeats 4000000 in
theorem wire_Open (A0 : Option Addr) (c0 : Nat) (l : List Int) (w : World) (hr0 : Kd.C (Kd.int .u8) w A0 l.length l) (hc0 : l.length ≤ c0) (hb : l.all byteB = true) (hl : l.length ≤ 140737488351232) :
    Calls Tryd.prog 18 #[.slice A0 l.length c0] w fun x w' => (∃ b A c, x = .returned (.pointer (some ⟨b, 0, none⟩)) ∧ w.heap.size ≤ b ∧ RdW w' b A c l l.length 0 0 0 ∧ RdF b A c l l.length ∧ ∀ ad, A = some ad → w.heap.size ≤ ad.block ∧ ad.block < w'.heap.size) ∧ Below w.heap.size w w' := by
  have HC := Aside0.mk (slices_Clone_byte_byte.calls A0 c0 l l w hr0 hc0 (by unfold slices_Clone_byte_byte.f; rw [if_pos (by omega)]))
  clear hr0
  go_enter Tryd.func18, Tryd.ntmps18
  go_wp2_with (go_at_call 70; refine HC.out.mono ?_; rintro e w1 ⟨v0, rfl, hR, hB1⟩; obtain ⟨A, c, rfl, hc, hCC⟩ := Kd.R_reads hR)
  go_ret
  have hcells := World.alloc_heap_new w1 (.cells #[.slice A l.length c, .int .i64 0, .int .i64 (l.length : Int), .int .i64 0, .int .i64 0] 88)
  refine ⟨⟨w1.heap.size, A, c, rfl, hB1.size, ⟨hcells, Kd.C_alloc hCC _⟩, ⟨hc, hb, hl, Nat.le_refl _, ?_⟩, ?_⟩, below_alloc hB1 _⟩
  all_goals rintro ad rfl
  rotate_left
  · obtain ⟨g, rfl⟩ := Kd.R_head hR
    exact ⟨Kd.R_base hR g (by simp [Value.ownBlock]), Nat.lt_of_lt_of_le (Kd.R_lt hR g (by simp [Value.ownBlock])) (below_alloc (Below.refl _ w1) _).size⟩
  obtain ⟨g, rfl⟩ := Kd.R_head hR
  exact Nat.ne_of_lt (Kd.R_lt hR g (by simp [Value.ownBlock]))
theorem crc_grown {w w' : World} {b : Nat} (h : CrcTab w) (hg : w.grownBy w' (some b)) (hb : b ≠ 1) : CrcTab w' := fun i hi => by
  have h1 := h i hi
  rw [← h1]
  exact World.cell?_of_block (hg.block 1 (World.block_lt_of_cell? w _ h1) (fun e => hb (Option.some.inj e).symm))
theorem crc_ne {w : World} {b : Nat} {A : Option Addr} {c : Nat} {l : List Int} {m ix : Nat} {e fa : Int} (h : CrcTab w) (hr : RdW w b A c l m ix e fa) : b ≠ 1 := by
  rintro rfl
  have h0 := (rd_cells hr).1
  have h1 := h 0 (by decide)
  rw [h0] at h1
  cases h1
end Go.Proofs.YtmlbfepibfobaaaDoor.Hand
end

section
namespace Go.Proofs.YtmlbfepibfobaaaDoor.Hand
open Go.RowKit Go.Proofs.YtmlbfepibfobaaaDoorW.PrintWords Go.Proofs.YtmlbfepibfobaaaDoorW.PrintLast Go.Proofs.YtmlbfepibfobaaaDoorW.PrintMore
set_option linter.unusedVariables false
set_option linter.unusedSimpArgs false

set_option maxHeartbeats 1000000 in
set_option maxRecDepth 20000 in
theorem wire_Section_short (b : Nat) (A : Option Addr) (c : Nat) (l : List Int) (m ix : Nat) (fa : Int) (w : World) (h : RdW w b A c l m ix 0 fa) (hf : RdF b A c l m) (id : Int) (hi : m ≤ ix) :
    Calls Tryd.prog 19 #[.pointer (some ⟨b, 0, none⟩), .int .u8 id] w fun x w' => x = .returned (.pointer none) ∧ RdW w' b A c l m ix 2 ix ∧ w.grownBy w' (some b) := by
  have H1 := Aside0.mk (wire_ready b A c l m ix 0 fa w h)
  obtain ⟨c0, c1, c2, c3, c4, f1, f3, f4⟩ := rd_cells h
  have HA := Aside0.mk hf.far
  have H2 := Aside0.mk (wire_one_none b A c l m ix 0 fa w h hf hi)
  clear h hf
  go_enter_defers Tryd.func19, Tryd.ntmps19
  go_wp2_with (first | (go_at_call 71; refine H1.out.mono ?_; rintro e w1 ⟨rfl, rfl⟩) | (go_at_call 74; refine H2.out.mono ?_; rintro e w2 ⟨rfl, hr2, hg2⟩))
  refine leaves_cons (f := 72) (args := #[.pointer (some ⟨b, 0, none⟩)]) (by simp) (by simp [go_sem]) ?_
  refine (wire_catch b A c l m _ _ _ 2 (ix : Nat) [] _ hr2).mono ?_
  rintro e u' w'' ⟨rfl, rfl, k, rfl⟩
  simp [Leaves, settle, results, Tryd.results19, go_sem]
  exact ⟨rd_fell hr2 HA.out 2 (ix) k, hg2.trans (fell_grown _ b 2 (ix : Nat) k)⟩

set_option maxHeartbeats 1000000 in
set_option maxRecDepth 20000 in
theorem wire_Section_form (b : Nat) (A : Option Addr) (c : Nat) (l : List Int) (m ix : Nat) (fa : Int) (w : World) (h : RdW w b A c l m ix 0 fa) (hf : RdF b A c l m) (id : Int) (hi : ix < m) (hid0 : l.getD ix 0 ≠ id) :
    Calls Tryd.prog 19 #[.pointer (some ⟨b, 0, none⟩), .int .u8 id] w fun x w' => x = .returned (.pointer none) ∧ RdW w' b A c l m ix 1 ix ∧ w.grownBy w' (some b) := by
  have H1 := Aside0.mk (wire_ready b A c l m ix 0 fa w h)
  obtain ⟨c0, c1, c2, c3, c4, f1, f3, f4⟩ := rd_cells h
  have HA := Aside0.mk hf.far
  have H2 := wire_one_some b A c l m ix 0 fa w h hf hi
  obtain ⟨z, hz⟩ : ∃ z, z = l.getD ix 0 := ⟨_, rfl⟩
  rw [← hz] at H2 hid0
  have H2 := Aside0.mk H2
  clear hz
  have hid : (z == id) = false := beq_eq_false_iff_ne.2 hid0
  clear h hf
  go_enter_defers Tryd.func19, Tryd.ntmps19
  go_wp2_with (first | (go_at_call 71; refine H1.out.mono ?_; rintro e w1 ⟨rfl, rfl⟩) | (go_at_call 74; refine H2.out.mono ?_; rintro e w2 ⟨rfl, hr2, hg2⟩) | (go_at_call 73; refine (wire_unless_not _ _ _).mono ?_; rintro e w0 ⟨rfl, rfl⟩))
  refine leaves_cons (f := 72) (args := #[.pointer (some ⟨b, 0, none⟩)]) (by simp) (by simp [go_sem]) ?_
  refine (wire_catch b A c l m _ _ _ 1 (ix : Nat) [] _ hr2).mono ?_
  rintro e u' w'' ⟨rfl, rfl, k, rfl⟩
  simp [Leaves, settle, results, Tryd.results19, go_sem]
  exact ⟨rd_fell hr2 HA.out 1 (ix) k, hg2.trans (fell_grown _ b 1 (ix : Nat) k)⟩

set_option maxHeartbeats 1000000 in
set_option maxRecDepth 20000 in
theorem wire_Section_bad (b : Nat) (A : Option Addr) (c : Nat) (l : List Int) (m ix : Nat) (fa : Int) (w : World) (h : RdW w b A c l m ix 0 fa) (hf : RdF b A c l m) (id : Int) (hi : ix < m) (hid0 : l.getD ix 0 = id) (v n y : Int) (ht : lebTake (l.take m) ((ix + 1 : Nat) : Int) = (v, n, y)) (hy : y ≠ 0) :
    Calls Tryd.prog 19 #[.pointer (some ⟨b, 0, none⟩), .int .u8 id] w fun x w' => x = .returned (.pointer none) ∧ RdW w' b A c l m (ix + 1) y (ix + 1 : Nat) ∧ w.grownBy w' (some b) := by
  have H1 := Aside0.mk (wire_ready b A c l m ix 0 fa w h)
  obtain ⟨c0, c1, c2, c3, c4, f1, f3, f4⟩ := rd_cells h
  have HA := Aside0.mk hf.far
  have H2 := wire_one_some b A c l m ix 0 fa w h hf hi
  obtain ⟨z, hz⟩ : ∃ z, z = l.getD ix 0 := ⟨_, rfl⟩
  rw [← hz] at H2 hid0
  have H2 := Aside0.mk H2
  clear hz
  have hid : (z == id) = true := by rw [hid0]; exact beq_self_eq_true _
  have H3 := Aside0.mk (fun W hr => wire_num_bad b A c l m (ix + 1) 0 fa W hr hf v n y ht hy 65536)
  clear h hf ht
  go_enter_defers Tryd.func19, Tryd.ntmps19
  go_wp2_with (first | (go_at_call 71; refine H1.out.mono ?_; rintro e w1 ⟨rfl, rfl⟩) | (go_at_call 74; refine H2.out.mono ?_; rintro e w2 ⟨rfl, hr2, hg2⟩) | (go_at_call 73; refine (wire_unless _ _ _).mono ?_; rintro e w0 ⟨rfl, rfl⟩) | (go_at_call 75; refine (H3.out _ hr2).mono ?_; rintro e w3 ⟨rfl, hr3, hg3⟩; obtain ⟨d0, d1, d2, d3, d4, g1, g3, g4⟩ := rd_cells hr3))
  refine leaves_cons (f := 72) (args := #[.pointer (some ⟨b, 0, none⟩)]) (by simp) (by simp [go_sem]) ?_
  refine (wire_catch b A c l m _ _ _ y (ix + 1 : Nat) [] _ hr3).mono ?_
  rintro e u' w'' ⟨rfl, rfl, k, rfl⟩
  simp [Leaves, settle, results, Tryd.results19, go_sem]
  exact ⟨rd_fell hr3 HA.out y (ix + 1) k, (hg2.trans hg3).trans (fell_grown _ b y (ix + 1 : Nat) k)⟩

set_option maxHeartbeats 1000000 in
set_option maxRecDepth 20000 in
theorem wire_Section_long (b : Nat) (A : Option Addr) (c : Nat) (l : List Int) (m ix : Nat) (fa : Int) (w : World) (h : RdW w b A c l m ix 0 fa) (hf : RdF b A c l m) (id : Int) (hi : ix < m) (hid0 : l.getD ix 0 = id) (v : Int) (n : Nat) (ht : lebTake (l.take m) ((ix + 1 : Nat) : Int) = (v, (n : Int), 0)) (h0 : 0 ≤ v) (h1 : 65536 < v) :
    Calls Tryd.prog 19 #[.pointer (some ⟨b, 0, none⟩), .int .u8 id] w fun x w' => x = .returned (.pointer none) ∧ RdW w' b A c l m (ix + 1) 3 (ix + 1 : Nat) ∧ w.grownBy w' (some b) := by
  have H1 := Aside0.mk (wire_ready b A c l m ix 0 fa w h)
  obtain ⟨c0, c1, c2, c3, c4, f1, f3, f4⟩ := rd_cells h
  have HA := Aside0.mk hf.far
  have H2 := wire_one_some b A c l m ix 0 fa w h hf hi
  obtain ⟨z, hz⟩ : ∃ z, z = l.getD ix 0 := ⟨_, rfl⟩
  rw [← hz] at H2 hid0
  have H2 := Aside0.mk H2
  clear hz
  have hid : (z == id) = true := by rw [hid0]; exact beq_self_eq_true _
  have H3 := Aside0.mk (fun W hr => wire_num_long b A c l m (ix + 1) 0 fa W hr hf v n ht 65536 h0 (by omega) (by omega))
  clear h hf ht
  go_enter_defers Tryd.func19, Tryd.ntmps19
  go_wp2_with (first | (go_at_call 71; refine H1.out.mono ?_; rintro e w1 ⟨rfl, rfl⟩) | (go_at_call 74; refine H2.out.mono ?_; rintro e w2 ⟨rfl, hr2, hg2⟩) | (go_at_call 73; refine (wire_unless _ _ _).mono ?_; rintro e w0 ⟨rfl, rfl⟩) | (go_at_call 75; refine (H3.out _ hr2).mono ?_; rintro e w3 ⟨rfl, hr3, hg3⟩; obtain ⟨d0, d1, d2, d3, d4, g1, g3, g4⟩ := rd_cells hr3))
  refine leaves_cons (f := 72) (args := #[.pointer (some ⟨b, 0, none⟩)]) (by simp) (by simp [go_sem]) ?_
  refine (wire_catch b A c l m _ _ _ 3 (ix + 1 : Nat) [] _ hr3).mono ?_
  rintro e u' w'' ⟨rfl, rfl, k, rfl⟩
  simp [Leaves, settle, results, Tryd.results19, go_sem]
  exact ⟨rd_fell hr3 HA.out 3 (ix + 1) k, (hg2.trans hg3).trans (fell_grown _ b 3 (ix + 1 : Nat) k)⟩

set_option maxHeartbeats 1000000 in
set_option maxRecDepth 20000 in
theorem wire_Section_cut (b : Nat) (A : Option Addr) (c : Nat) (l : List Int) (m ix : Nat) (fa : Int) (w : World) (h : RdW w b A c l m ix 0 fa) (hf : RdF b A c l m) (id : Int) (hi : ix < m) (hid0 : l.getD ix 0 = id) (v : Int) (n : Nat) (ht : lebTake (l.take m) ((ix + 1 : Nat) : Int) = (v, (n : Int), 0)) (j : Nat) (hv : v = (j : Int)) (h1 : j ≤ 65536) (hnm : n ≤ m) (hn : m < n + (j + 4)) :
    Calls Tryd.prog 19 #[.pointer (some ⟨b, 0, none⟩), .int .u8 id] w fun x w' => x = .returned (.pointer none) ∧ RdW w' b A c l m n 2 n ∧ w.grownBy w' (some b) := by
  have H1 := Aside0.mk (wire_ready b A c l m ix 0 fa w h)
  obtain ⟨c0, c1, c2, c3, c4, f1, f3, f4⟩ := rd_cells h
  have HA := Aside0.mk hf.far
  have H2 := wire_one_some b A c l m ix 0 fa w h hf hi
  obtain ⟨z, hz⟩ : ∃ z, z = l.getD ix 0 := ⟨_, rfl⟩
  rw [← hz] at H2 hid0
  have H2 := Aside0.mk H2
  clear hz
  have hid : (z == id) = true := by rw [hid0]; exact beq_self_eq_true _
  subst hv
  have H3 := Aside0.mk (fun W hr => wire_num_some b A c l m (ix + 1) 0 fa W hr hf (j : Int) n ht 65536 (by omega) (by omega) (by omega))
  have hsum : IntKind.i64.wrap ((j : Int) + 4) = ((j + 4 : Nat) : Int) := IntWalk.i64_in _ ⟨by omega, by omega⟩
  have hsum2 : wrap64 ((j : Int) + 4) = ((j + 4 : Nat) : Int) := w64 (by omega) (by omega)
  have HS := Aside0.mk (fun W hr => wire_some_none b A c l m n 0 fa W hr hf (j + 4) hnm hn (by omega))
  clear h hf ht
  go_enter_defers Tryd.func19, Tryd.ntmps19
  go_wp2_with (first | (go_at_call 71; refine H1.out.mono ?_; rintro e w1 ⟨rfl, rfl⟩) | (go_at_call 74; refine H2.out.mono ?_; rintro e w2 ⟨rfl, hr2, hg2⟩) | (go_at_call 73; refine (wire_unless _ _ _).mono ?_; rintro e w0 ⟨rfl, rfl⟩) | (go_at_call 75; refine (H3.out _ hr2).mono ?_; rintro e w3 ⟨rfl, hr3, hg3⟩; obtain ⟨d0, d1, d2, d3, d4, g1, g3, g4⟩ := rd_cells hr3) | (go_at_call 77; refine (HS.out _ hr3).mono ?_; rintro e w4 ⟨rfl, hr4, hg4⟩))
  refine leaves_cons (f := 72) (args := #[.pointer (some ⟨b, 0, none⟩)]) (by simp) (by simp [go_sem]) ?_
  refine (wire_catch b A c l m _ _ _ 2 (n : Nat) [] _ hr4).mono ?_
  rintro e u' w'' ⟨rfl, rfl, k, rfl⟩
  simp [Leaves, settle, results, Tryd.results19, go_sem]
  exact ⟨rd_fell hr4 HA.out 2 (n) k, ((hg2.trans hg3).trans hg4).trans (fell_grown _ b 2 (n : Nat) k)⟩

set_option maxHeartbeats 1000000 in
set_option maxRecDepth 20000 in
theorem wire_Section_sum (b : Nat) (A : Option Addr) (c : Nat) (l : List Int) (m ix : Nat) (fa : Int) (w : World) (h : RdW w b A c l m ix 0 fa) (hf : RdF b A c l m) (id : Int) (hG : CrcTab w) (hi : ix < m) (hid0 : l.getD ix 0 = id) (v : Int) (n : Nat) (ht : lebTake (l.take m) ((ix + 1 : Nat) : Int) = (v, (n : Int), 0)) (j : Nat) (hv : v = (j : Int)) (h1 : j ≤ 65536) (hn : n + (j + 4) ≤ m) (hy : (openL (cutN l n (j + 4))).2 ≠ 0) :
    Calls Tryd.prog 19 #[.pointer (some ⟨b, 0, none⟩), .int .u8 id] w fun x w' => x = .returned (.pointer none) ∧ RdW w' b A c l m n (openL (cutN l n (j + 4))).2 n ∧ w.grownBy w' (some b) := by
  have H1 := Aside0.mk (wire_ready b A c l m ix 0 fa w h)
  obtain ⟨c0, c1, c2, c3, c4, f1, f3, f4⟩ := rd_cells h
  have HA := Aside0.mk hf.far
  have H2 := wire_one_some b A c l m ix 0 fa w h hf hi
  obtain ⟨z, hz⟩ : ∃ z, z = l.getD ix 0 := ⟨_, rfl⟩
  rw [← hz] at H2 hid0
  have H2 := Aside0.mk H2
  clear hz
  have hid : (z == id) = true := by rw [hid0]; exact beq_self_eq_true _
  subst hv
  have H3 := Aside0.mk (fun W hr => wire_num_some b A c l m (ix + 1) 0 fa W hr hf (j : Int) n ht 65536 (by omega) (by omega) (by omega))
  have hsum : IntKind.i64.wrap ((j : Int) + 4) = ((j + 4 : Nat) : Int) := IntWalk.i64_in _ ⟨by omega, by omega⟩
  have hsum2 : wrap64 ((j : Int) + 4) = ((j + 4 : Nat) : Int) := w64 (by omega) (by omega)
  have HS := Aside0.mk (fun W hr => wire_some_some b A c l m n 0 fa W hr hf (j + 4) hn)
  have hm := hf.to_
  have hl := hf.len
  have hlen := cutN_len (l := l) (ix := n) (n := j + 4) (by omega)
  have hby : (cutN l n (j + 4)).all byteB = true := List.all_eq_true.2 (fun x hx => List.all_eq_true.1 hf.byt x (List.mem_of_mem_take (List.mem_of_mem_drop hx)))
  obtain ⟨r1, r2, hop⟩ : ∃ r1 r2, openL (cutN l n (j + 4)) = (r1, r2) := ⟨_, _, rfl⟩
  have HO : Aside0 (∀ A' W, Kd.C (Kd.int .u8) W A' (j + 4) (cutN l n (j + 4)) → CrcTab W → Calls Tryd.prog 76 #[.slice A' ((j + 4 : Nat)) (j + 4)] W fun e w' => ∃ v0_ : Value, e = .returned (.tuple #[v0_, .int .i64 r2]) ∧ Below W.heap.size W w') := ⟨fun A' W hC hG => by
    have := crc_Open.calls A' (j + 4) (cutN l n (j + 4)) r1 r2 W (by rw [hlen]; exact hC) (by omega) hG (by unfold crc_Open.f; rw [if_pos ⟨hby, by omega⟩, hop])
    rw [hlen] at this
    exact this.mono fun e w' ⟨v0, h1, _, h3⟩ => ⟨v0, h1, h3⟩⟩
  have HN := Aside0.mk (crc_ne hG h)
  have HG := Aside0.mk hG
  rw [hop] at hy ⊢
  dsimp only at hy ⊢
  have hy' : (r2 == 0) = false := beq_eq_false_iff_ne.2 hy
  clear h hf ht hG hop
  go_enter_defers Tryd.func19, Tryd.ntmps19
  go_wp2_with (first | (go_at_call 71; refine H1.out.mono ?_; rintro e w1 ⟨rfl, rfl⟩) | (go_at_call 74; refine H2.out.mono ?_; rintro e w2 ⟨rfl, hr2, hg2⟩) | (go_at_call_of 73 (Value.bool true); refine (wire_unless _ _ _).mono ?_; rintro e w0 ⟨rfl, rfl⟩) | (go_at_call_of 73 (Value.bool false); refine (wire_unless_not _ _ _).mono ?_; rintro e w0 ⟨rfl, rfl⟩) | (go_at_call 75; refine (H3.out _ hr2).mono ?_; rintro e w3 ⟨rfl, hr3, hg3⟩; obtain ⟨d0, d1, d2, d3, d4, g1, g3, g4⟩ := rd_cells hr3) | (go_at_call 77; refine (HS.out _ hr3).mono ?_; rintro e w4 ⟨⟨A', rfl, hC4⟩, hr4, hg4⟩) | (go_at_call 76; refine (HO.out A' w4 hC4 (crc_grown HG.out ((hg2.trans hg3).trans hg4) HN.out)).mono ?_; rintro e w5 ⟨v5, rfl, hB5⟩; have hr5 := rd_below hr4 hB5; obtain ⟨d0, d1, d2, d3, d4, g1, g3, g4⟩ := rd_cells hr5))
  refine leaves_cons (f := 72) (args := #[.pointer (some ⟨b, 0, none⟩)]) (by simp) (by simp [go_sem]) ?_
  refine (wire_catch b A c l m _ _ _ r2 (n : Nat) [] _ hr5).mono ?_
  rintro e u' w'' ⟨rfl, rfl, k, rfl⟩
  simp [Leaves, settle, results, Tryd.results19, go_sem]
  exact ⟨rd_fell hr5 HA.out r2 n k, (((hg2.trans hg3).trans hg4).trans (grown_of_below hB5 _)).trans (fell_grown _ b r2 (n : Nat) k)⟩

set_option maxHeartbeats 1000000 in
set_option maxRecDepth 20000 in
theorem wire_Section_some (b : Nat) (A : Option Addr) (c : Nat) (l : List Int) (m ix : Nat) (fa : Int) (w : World) (h : RdW w b A c l m ix 0 fa) (hf : RdF b A c l m) (id : Int) (hG : CrcTab w) (hi : ix < m) (hid0 : l.getD ix 0 = id) (v : Int) (n : Nat) (ht : lebTake (l.take m) ((ix + 1 : Nat) : Int) = (v, (n : Int), 0)) (j : Nat) (hv : v = (j : Int)) (h1 : j ≤ 65536) (hn : n + (j + 4) ≤ m) (hy : (openL (cutN l n (j + 4))).2 = 0) :
    Calls Tryd.prog 19 #[.pointer (some ⟨b, 0, none⟩), .int .u8 id] w fun x w' => (∃ B, x = .returned (.pointer (some ⟨B, 0, none⟩)) ∧ w.heap.size ≤ B ∧ RdW w' B A c l (n + j) n 0 0 ∧ RdF B A c l (n + j)) ∧ RdW w' b A c l m (n + (j + 4)) 0 fa ∧ w.grownBy w' (some b) := by
  have H1 := Aside0.mk (wire_ready b A c l m ix 0 fa w h)
  obtain ⟨c0, c1, c2, c3, c4, f1, f3, f4⟩ := rd_cells h
  have HA := Aside0.mk hf.far
  have H2 := wire_one_some b A c l m ix 0 fa w h hf hi
  obtain ⟨z, hz⟩ : ∃ z, z = l.getD ix 0 := ⟨_, rfl⟩
  rw [← hz] at H2 hid0
  have H2 := Aside0.mk H2
  clear hz
  have hid : (z == id) = true := by rw [hid0]; exact beq_self_eq_true _
  subst hv
  have H3 := Aside0.mk (fun W hr => wire_num_some b A c l m (ix + 1) 0 fa W hr hf (j : Int) n ht 65536 (by omega) (by omega) (by omega))
  have hsum : IntKind.i64.wrap ((j : Int) + 4) = ((j + 4 : Nat) : Int) := IntWalk.i64_in _ ⟨by omega, by omega⟩
  have hsum2 : wrap64 ((j : Int) + 4) = ((j + 4 : Nat) : Int) := w64 (by omega) (by omega)
  have HS := Aside0.mk (fun W hr => wire_some_some b A c l m n 0 fa W hr hf (j + 4) hn)
  have hm := hf.to_
  have hl := hf.len
  have hlen := cutN_len (l := l) (ix := n) (n := j + 4) (by omega)
  have hby : (cutN l n (j + 4)).all byteB = true := List.all_eq_true.2 (fun x hx => List.all_eq_true.1 hf.byt x (List.mem_of_mem_take (List.mem_of_mem_drop hx)))
  obtain ⟨r1, r2, hop⟩ : ∃ r1 r2, openL (cutN l n (j + 4)) = (r1, r2) := ⟨_, _, rfl⟩
  have HO : Aside0 (∀ A' W, Kd.C (Kd.int .u8) W A' (j + 4) (cutN l n (j + 4)) → CrcTab W → Calls Tryd.prog 76 #[.slice A' ((j + 4 : Nat)) (j + 4)] W fun e w' => ∃ v0_ : Value, e = .returned (.tuple #[v0_, .int .i64 r2]) ∧ Below W.heap.size W w') := ⟨fun A' W hC hG => by
    have := crc_Open.calls A' (j + 4) (cutN l n (j + 4)) r1 r2 W (by rw [hlen]; exact hC) (by omega) hG (by unfold crc_Open.f; rw [if_pos ⟨hby, by omega⟩, hop])
    rw [hlen] at this
    exact this.mono fun e w' ⟨v0, h1, _, h3⟩ => ⟨v0, h1, h3⟩⟩
  have HN := Aside0.mk (crc_ne hG h)
  have HG := Aside0.mk hG
  rw [hop] at hy
  dsimp only at hy
  subst hy
  have hnj : IntKind.i64.wrap ((n : Int) + j) = ((n + j : Nat) : Int) := IntWalk.i64_in _ ⟨by omega, by omega⟩
  have hnj2 : wrap64 ((n : Int) + j) = ((n + j : Nat) : Int) := w64 (by omega) (by omega)
  have HF := Aside0.mk hf
  have HC0 := Aside0.mk (C_far h.2 (by omega))
  clear h hf ht hG hop
  go_enter_defers Tryd.func19, Tryd.ntmps19
  go_wp2_with (first | (go_at_call 71; refine H1.out.mono ?_; rintro e w1 ⟨rfl, rfl⟩) | (go_at_call 74; refine H2.out.mono ?_; rintro e w2 ⟨rfl, hr2, hg2⟩) | (go_at_call 73; refine (wire_unless _ _ _).mono ?_; rintro e w0 ⟨rfl, rfl⟩) | (go_at_call 75; refine (H3.out _ hr2).mono ?_; rintro e w3 ⟨rfl, hr3, hg3⟩; obtain ⟨d0, d1, d2, d3, d4, g1, g3, g4⟩ := rd_cells hr3) | (go_at_call 77; refine (HS.out _ hr3).mono ?_; rintro e w4 ⟨⟨A', rfl, hC4⟩, hr4, hg4⟩) | (go_at_call 76; refine (HO.out A' w4 hC4 (crc_grown HG.out ((hg2.trans hg3).trans hg4) HN.out)).mono ?_; rintro e w5 ⟨v5, rfl, hB5⟩; have hr5 := rd_below hr4 hB5; obtain ⟨d0, d1, d2, d3, d4, g1, g3, g4⟩ := rd_cells hr5))
  refine leaves_cons (f := 72) (args := #[.pointer (some ⟨b, 0, none⟩)]) (by simp) (by simp [go_sem]) ?_
  refine (wire_catch_idle ⟨b, 0, none⟩ _).mono ?_
  rintro e u' w'' ⟨rfl, rfl, rfl⟩
  simp [Leaves, settle, results, Tryd.results19, go_sem]
  clear hsum hsum2 hnj hnj2
  have hB := below_alloc (Below.refl w0.heap.size w0) (.cells #[.slice A l.length c, .int .i64 (n : Int), .int .i64 ((n : Int) + j), .int .i64 0, .int .i64 0] 88)
  have hg := ((hg2.trans hg3).trans hg4).trans (grown_of_below hB5 (some b))
  refine ⟨⟨hg.size, ⟨World.alloc_heap_new _ _, Kd.C_below hr5.2 hB⟩, ⟨HF.out.cap, HF.out.byt, HF.out.len, by omega, fun ad e => ?_⟩⟩, rd_below hr5 hB, hg.trans (grown_of_below hB _)⟩
  have h1 := HC0.out ad e
  have h2 := hg.size
  omega
end Go.Proofs.YtmlbfepibfobaaaDoor.Hand
end

section
namespace Go.Proofs.YtmlbfepibfobaaaDoor.Hand
open Go.RowKit Go.Proofs.YtmlbfepibfobaaaDoorW.PrintWords Go.Proofs.YtmlbfepibfobaaaDoorW.PrintLast Go.Proofs.YtmlbfepibfobaaaDoorW.PrintMore
set_option linter.unusedVariables false
set_option linter.unusedSimpArgs false

/-! What a reader comes to, in plain words: where it stands, what failed, and where. -/
abbrev St := Nat × Int × Int
def byteS (l : List Int) (m : Nat) (s : St) : Int × St := if s.2.1 = 0 then (if s.1 < m then (l.getD s.1 0, (s.1 + 1, 0, s.2.2)) else (0, (s.1, 2, (s.1 : Int)))) else (0, s)
def bigS (l : List Int) (m : Nat) (s : St) : Int × St := if s.2.1 = 0 then (if (lebTake (l.take m) (s.1 : Int)).2.2 = 0 then ((lebTake (l.take m) (s.1 : Int)).1, ((lebTake (l.take m) (s.1 : Int)).2.1.toNat, 0, s.2.2)) else (0, (s.1, (lebTake (l.take m) (s.1 : Int)).2.2, (s.1 : Int)))) else (0, s)
def numS (l : List Int) (m : Nat) (most : Int) (s : St) : Int × St := if s.2.1 = 0 then (if (lebTake (l.take m) (s.1 : Int)).2.2 = 0 then (if most < 0 ∨ most < (lebTake (l.take m) (s.1 : Int)).1 then (0, (s.1, 3, (s.1 : Int))) else ((lebTake (l.take m) (s.1 : Int)).1, ((lebTake (l.take m) (s.1 : Int)).2.1.toNat, 0, s.2.2))) else (0, (s.1, (lebTake (l.take m) (s.1 : Int)).2.2, (s.1 : Int)))) else (0, s)
def signS (l : List Int) (m : Nat) (s : St) : Int × St := ((if (bigS l m s).2.2.1 = 0 then zagI (bigS l m s).1 else 0), (bigS l m s).2)
def textS (l : List Int) (m : Nat) (s : St) : ByteArray × St :=
  if (numS l m 64 s).2.2.1 = 0 then (if (numS l m 64 s).2.1 + (numS l m 64 s).1.toNat ≤ m then (strOfNums (cutN l (numS l m 64 s).2.1 (numS l m 64 s).1.toNat), ((numS l m 64 s).2.1 + (numS l m 64 s).1.toNat, 0, (numS l m 64 s).2.2.2)) else (⟨#[]⟩, ((numS l m 64 s).2.1, 2, ((numS l m 64 s).2.1 : Int)))) else (⟨#[]⟩, (numS l m 64 s).2)
def endS (m : Nat) (s : St) : Bool × St := if s.2.1 = 0 then (if s.1 = m then (true, s) else (false, (s.1, 1, (s.1 : Int)))) else (false, s)
def failS (y : Int) (s : St) : St := if s.2.1 = 0 then (s.1, y, if y = 0 then 0 else (s.1 : Int)) else s
/-- A section behind its number: from where (i) and how many bytes (j). -/
def bodyS (l : List Int) (m i j : Nat) (fa : Int) : Option (Nat × Nat) × St :=
  if m < i + (j + 4) then (none, (i, 2, (i : Int))) else if (openL (cutN l i (j + 4))).2 = 0 then (some (i, i + j), (i + (j + 4), 0, fa)) else (none, (i, (openL (cutN l i (j + 4))).2, (i : Int)))
def sectS (l : List Int) (m : Nat) (id : Int) (s : St) : Option (Nat × Nat) × St :=
  if s.2.1 = 0 then (if (byteS l m s).2.2.1 = 0 then (if (byteS l m s).1 = id then (if (numS l m 65536 (byteS l m s).2).2.2.1 = 0 then bodyS l m (numS l m 65536 (byteS l m s).2).2.1 (numS l m 65536 (byteS l m s).2).1.toNat (numS l m 65536 (byteS l m s).2).2.2.2 else (none, (numS l m 65536 (byteS l m s).2).2)) else (none, (s.1, 1, (s.1 : Int)))) else (none, (byteS l m s).2)) else (none, s)
/-- What is so of a reader's state. -/
def InvS (m : Nat) (s : St) : Prop := s.1 ≤ m ∧ (s.2.1 = 0 → s.2.2 = 0)
def RdS (w : World) (b : Nat) (A : Option Addr) (c : Nat) (l : List Int) (m : Nat) (s : St) : Prop := RdW w b A c l m s.1 s.2.1 s.2.2
theorem take_cases {l : List Int} {m ix : Nat} (hb : l.all byteB = true) (hm : m ≤ l.length) : (∃ v n : Nat, lebTake (l.take m) (ix : Int) = ((v : Int), (n : Int), 0) ∧ v < 18446744073709551616 ∧ ix < n ∧ n ≤ m) ∨ ∃ v n y, lebTake (l.take m) (ix : Int) = (v, n, y) ∧ y ≠ 0 := by
  by_cases h : (lebTake (l.take m) (ix : Int)).2.2 = 0
  · left
    obtain ⟨hv, cc, hc, hc0, hc1, _⟩ := lebPut_take (l.take m) ix (all_take m hb) h
    rw [take_len hm] at hc1
    obtain ⟨h0, h1⟩ := u64B_iff.1 hv
    refine ⟨(lebTake (l.take m) (ix : Int)).1.toNat, ix + cc, ?_, by omega, by omega, hc1⟩
    refine Prod.ext ?_ (Prod.ext ?_ h)
    · show _ = (((lebTake (l.take m) (ix : Int)).1.toNat : Nat) : Int)
      omega
    · show _ = ((ix + cc : Nat) : Int)
      omega
  · exact .inr ⟨_, _, _, rfl, h⟩
theorem byteS_inv {l : List Int} {m : Nat} {s : St} (h : InvS m s) : InvS m (byteS l m s).2 := by
  obtain ⟨ix, e, fa⟩ := s
  obtain ⟨h1, h2⟩ := h
  dsimp only at h1 h2
  unfold byteS InvS
  dsimp only
  split
  · split
    · exact ⟨by dsimp only; omega, fun _ => by dsimp only; exact h2 (by assumption)⟩
    · exact ⟨h1, fun h => by simp at h⟩
  · exact ⟨h1, h2⟩
theorem numS_inv {l : List Int} {m : Nat} {most : Int} {s : St} (hb : l.all byteB = true) (hm : m ≤ l.length) (h : InvS m s) : InvS m (numS l m most s).2 ∧ ((numS l m most s).2.2.1 = 0 → s.2.1 = 0 → 0 ≤ (numS l m most s).1 ∧ (numS l m most s).1 ≤ most) := by
  obtain ⟨ix, e, fa⟩ := s
  obtain ⟨h1, h2⟩ := h
  dsimp only at h1 h2
  unfold numS InvS
  dsimp only
  split
  · rename_i he
    rcases take_cases (ix := ix) hb hm with ⟨v, n, ht, hv, hn0, hn1⟩ | ⟨v, n, y, ht, hy⟩
    · rw [ht]
      dsimp only
      rw [if_pos rfl]
      split
      · exact ⟨⟨h1, fun h => by simp at h⟩, fun h => by simp at h⟩
      · exact ⟨⟨by dsimp only; omega, fun _ => h2 he⟩, fun _ _ => by dsimp only; omega⟩
    · rw [ht]
      dsimp only
      rw [if_neg hy]
      exact ⟨⟨h1, fun h => absurd h hy⟩, fun h => absurd h hy⟩
  · rename_i he
    exact ⟨⟨h1, h2⟩, fun _ h => absurd h he⟩
theorem bigS_inv {l : List Int} {m : Nat} {s : St} (hb : l.all byteB = true) (hm : m ≤ l.length) (h : InvS m s) : InvS m (bigS l m s).2 ∧ 0 ≤ (bigS l m s).1 ∧ (bigS l m s).1 < 18446744073709551616 := by
  obtain ⟨ix, e, fa⟩ := s
  obtain ⟨h1, h2⟩ := h
  dsimp only at h1 h2
  unfold bigS InvS
  dsimp only
  split
  · rename_i he
    rcases take_cases (ix := ix) hb hm with ⟨v, n, ht, hv, hn0, hn1⟩ | ⟨v, n, y, ht, hy⟩
    · rw [ht]
      dsimp only
      rw [if_pos rfl]
      exact ⟨⟨by dsimp only; omega, fun _ => h2 he⟩, by dsimp only; omega, by dsimp only; omega⟩
    · rw [ht]
      dsimp only
      rw [if_neg hy]
      exact ⟨⟨h1, fun h => absurd h hy⟩, Int.le_refl 0, (by show (0 : Int) < _; decide)⟩
  · exact ⟨⟨h1, h2⟩, Int.le_refl 0, (by show (0 : Int) < _; decide)⟩
theorem textS_inv {l : List Int} {m : Nat} {s : St} (hb : l.all byteB = true) (hm : m ≤ l.length) (h : InvS m s) : InvS m (textS l m s).2 := by
  obtain ⟨h1, h2⟩ := (numS_inv (most := 64) hb hm h).1
  unfold textS
  split
  · rename_i he
    split
    · rename_i hle
      exact ⟨hle, fun _ => h2 he⟩
    · exact ⟨h1, fun h => by simp at h⟩
  · exact ⟨h1, h2⟩
theorem endS_inv {m : Nat} {s : St} (h : InvS m s) : InvS m (endS m s).2 := by
  unfold endS
  split
  · split
    · exact h
    · exact ⟨h.1, fun h => by simp at h⟩
  · exact h
theorem failS_inv {m : Nat} {y : Int} {s : St} (h : InvS m s) : InvS m (failS y s) := by
  unfold failS
  split
  · refine ⟨h.1, fun hy => ?_⟩
    dsimp only at hy ⊢
    rw [if_pos hy]
  · exact h
theorem bodyS_inv {l : List Int} {m i j : Nat} {fa : Int} (hi : i ≤ m) (hfa : fa = 0) : InvS m (bodyS l m i j fa).2 ∧ ∀ p, (bodyS l m i j fa).1 = some p → p.1 ≤ p.2 ∧ p.2 ≤ m ∧ 0 < m := by
  unfold bodyS
  split
  · exact ⟨⟨hi, fun h => by simp at h⟩, fun p h => by cases h⟩
  · split
    · refine ⟨⟨by dsimp only; omega, fun _ => hfa⟩, fun p h => ?_⟩
      cases h
      dsimp only
      omega
    · rename_i h1 h2
      exact ⟨⟨hi, fun h => absurd h h2⟩, fun p h => by cases h⟩
theorem sectS_inv {l : List Int} {m : Nat} {id : Int} {s : St} (hb : l.all byteB = true) (hm : m ≤ l.length) (h : InvS m s) : InvS m (sectS l m id s).2 ∧ ∀ p, (sectS l m id s).1 = some p → p.1 ≤ p.2 ∧ p.2 ≤ m ∧ 0 < m := by
  have h1 := byteS_inv (l := l) h
  have h2 := (numS_inv (most := 65536) hb hm h1).1
  unfold sectS
  split
  · split
    · split
      · split
        · rename_i hq
          exact bodyS_inv h2.1 (h2.2 hq)
        · exact ⟨h2, fun p h => by cases h⟩
      · exact ⟨⟨h.1, fun h => by simp at h⟩, fun p h => by cases h⟩
    · exact ⟨h1, fun p h => by cases h⟩
  · exact ⟨h, fun p h => by cases h⟩
/-- What has failed stays so. -/
theorem dead_stays {l : List Int} {m : Nat} {s : St} (h : s.2.1 ≠ 0) : (byteS l m s).2 = s ∧ (∀ most, (numS l m most s).2 = s) ∧ (bigS l m s).2 = s ∧ (textS l m s).2 = s ∧ (endS m s).2 = s ∧ (∀ y, failS y s = s) ∧ ∀ id, sectS l m id s = (none, s) := by
  have hn : ∀ most, numS l m most s = (0, s) := fun most => by unfold numS; rw [if_neg h]
  refine ⟨by unfold byteS; rw [if_neg h], fun most => by rw [hn], by unfold bigS; rw [if_neg h], ?_, by unfold endS; rw [if_neg h], fun y => by unfold failS; rw [if_neg h], fun id => by unfold sectS; rw [if_neg h]⟩
  unfold textS
  rw [hn, if_neg h]
end Go.Proofs.YtmlbfepibfobaaaDoor.Hand
end

section
-- Written by this session's program layer.py (the kit's print, turned), not by hand.
namespace Go.Proofs.YtmlbfepibfobaaaDoor.Q3
open Go.RowKit Go.Proofs.YtmlbfepibfobaaaDoorW.PrintWords Go.Proofs.YtmlbfepibfobaaaDoorW.PrintLast Go.Proofs.YtmlbfepibfobaaaDoorW.PrintMore Go.Proofs.YtmlbfepibfobaaaDoor.Hand
attribute [local go_sem] max2_int min2_int max_two min_two max_three min_three max_four min_four   -- for this text's walks alone
set_option linter.unusedVariables false
set_option linter.unusedSimpArgs false



def errW : Option Int → Value
  | none => .nilIface
  | some c => .iface 0 (.int .i64 c)
theorem errW_none : errW none = .nilIface := rfl
theorem errW_some (c : Int) : errW (some c) = .iface 0 (.int .i64 c) := rfl

theorem info5 : (Tryd.prog.info? 5).map (fun i => (i.zero, i.size, i.bytes)) = some (some (.int .u8 0), 1, 1) := by kernel_rfl
-- the values' own types

end Go.Proofs.YtmlbfepibfobaaaDoor.Q3
end

section
-- Written by this session's program layer.py (the kit's print, turned), not by hand.
namespace Go.Proofs.YtmlbfepibfobaaaDoor.Q3
open Go.RowKit Go.Proofs.YtmlbfepibfobaaaDoorW.PrintWords Go.Proofs.YtmlbfepibfobaaaDoorW.PrintLast Go.Proofs.YtmlbfepibfobaaaDoorW.PrintMore Go.Proofs.YtmlbfepibfobaaaDoor.Hand
attribute [local go_sem] max2_int min2_int max_two min_two max_three min_three max_four min_four   -- for this text's walks alone
set_option linter.unusedVariables false
set_option linter.unusedSimpArgs false

-- BY HAND: function 114 (secateurref02_Sum)

/-! ### secateurref02_Seal: function 78 -/
def secateurref02_Seal.l0 : Nat → List Int → Int → Int → Option (List Int)
  | 0, _, _, _ => none
  | k + 1, x3, x4, x5 => if x5 < 4 then (if 0 ≤ (IntKind.u64.wrap (wrap64 (8 * x5))) then (if x3.length < 140737488355328 then (secateurref02_Seal.l0 k (x3 ++ [(shr .u32 x4 (IntKind.u64.wrap (wrap64 (8 * x5)))) % 256]) x4 (wrap64 (x5 + 1))) else (none)) else (none)) else (some x3)
def secateurref02_Seal.f (k : Nat) (l0 : List Int) : Option (List Int) := if ([] : List Int).length + l0.length < 140737488355328 then ((secateurref02_Sum.f l0).bind fun t104 => (secateurref02_Seal.l0 k (([] : List Int) ++ l0) t104 0)) else (none)
theorem secateurref02_Seal.mono_l : ∀ k, (∀ y0 y1 y2, LeO (secateurref02_Seal.l0 k y0 y1 y2) (secateurref02_Seal.l0 (k + 1) y0 y1 y2))
  | 0 => fun _ _ _ r h => by simp [secateurref02_Seal.l0] at h
  | k + 1 => by
    have ih0 := secateurref02_Seal.mono_l k
    · intro y0 y1 y2
      unfold secateurref02_Seal.l0
      repeat' first
      | (with_reducible exact ih0 _ _ _)
      | (with_reducible exact LeO.refl _)
      | (with_reducible exact LeO.none _)
      | (with_reducible refine LeO.ite ?_ ?_)
      | (with_reducible refine LeO.bind ?_ (fun _ => ?_))
      | exact ih0 _ _ _
      | exact LeO.none _
      | refine LeO.ite ?_ ?_
      | refine LeO.bind ?_ (fun _ => ?_)
theorem secateurref02_Seal.mono : ∀ a0 k, LeO (secateurref02_Seal.f k a0) (secateurref02_Seal.f (k + 1) a0) := by
  intro a0 k
  have ih0 := secateurref02_Seal.mono_l k
  unfold secateurref02_Seal.f
  repeat' first
      | (with_reducible exact ih0 _ _ _)
      | (with_reducible exact LeO.refl _)
      | (with_reducible exact LeO.none _)
      | (with_reducible refine LeO.ite ?_ ?_)
      | (with_reducible refine LeO.bind ?_ (fun _ => ?_))
      | exact ih0 _ _ _
      | exact LeO.none _
      | refine LeO.ite ?_ ?_
      | refine LeO.bind ?_ (fun _ => ?_)
set_option maxHeartbeats 8000000 in
set_option maxRecDepth 100000 in
theorem secateurref02_Seal.calls (k : Nat) (A0 : Option Addr) (c0 : Nat) (l0 : List Int) (r : List Int) (w : World) (hr0 : Kd.C (Kd.int .u8) w A0 l0.length l0) (hc0 : l0.length ≤ c0) (h : secateurref02_Seal.f k l0 = some r) :
    Calls Tryd.prog 78 #[.slice A0 l0.length c0] w fun e w' => ∃ v0_ : Value, e = .returned (v0_) ∧ Kd.R (Kd.int .u8) 5 w' w.heap.size (fun _ => True) v0_ r ∧ Below w.heap.size w w' := by
  have HR0 := Aside0.mk hr0
  have HC0 := Aside0.mk hc0
  clear hr0 hc0
  have HB := Aside0.mk (Below.refl w.heap.size w)
  have H : (if ([] : List Int).length + l0.length < 140737488355328 then ((secateurref02_Sum.f l0).bind fun t104 => (secateurref02_Seal.l0 k (([] : List Int) ++ l0) t104 0)) else (none)) = some r := h
  clear h
  by_cases c2 : ([] : List Int).length + l0.length < 140737488355328
  · rw [if_pos c2] at H
    have LMc2 := Aside0.mk c2
    clear c2
    obtain ⟨y101, hy101⟩ : ∃ y_ : List Int, y_ = (([] : List Int) ++ l0) := ⟨_, rfl⟩
    replace H : ((secateurref02_Sum.f l0).bind fun t104 => (secateurref02_Seal.l0 k y101 t104 0)) = some r := by first | (rw [hy101]; with_reducible exact H) | (have H2_ := (Option.bind_some _ _).symm.trans H; rw [hy101]; with_reducible exact H2_) | (have H2_ := (Option.bind_some _ _).symm.trans H; with_reducible exact H2_) | with_reducible exact H | (rw [hy101]; exact H) | exact H
    have Ny101 := Aside0.mk hy101
    clear hy101
    replace H := Option.bind_eq_some_iff.mp H
    obtain ⟨t104, A30, H⟩ := H
    replace H : (secateurref02_Seal.l0 k y101 t104 0) = some r := H
    have A3 := Aside0.mk A30
    clear A30
    have H' := Aside0.mk H
    clear H
    go_enter Tryd.func78, Tryd.ntmps78
    go_wp2_with (first | ((with_reducible refine gate_builtin (b := .append) (xs := #[.tmp 6, .tmp 7]) rfl ?_); at_builtin; refine Kd.R_append_rows (Kd.int .u8) (w0 := w) w.heap.size rfl (.tmp 6) (.tmp 7) 22 5 (.int .u8 0) 1 rfl Tryd.underlying22 info5 rfl (by decide) (by omega) (.slice none 0 0) ([] : List Int) l0 _ _ _ (fun _ => True) (fun _ => False) rfl rfl ?aO ?aR (fun _ _ h => h) (fun _ h => h.elim) ?aF ?aB ?aS ?aL ?_; (case aR => repeat (first | exact HR0.out | (with_reducible refine Kd.C_alloc ?_ _) | (with_reducible refine Kd.C_drewN ?_ _) | (with_reducible refine Kd.C_drew ?_))); (case aB => exact (by repeat (first | (with_reducible first | exact HB.out | apply below_alloc | apply pw_below_drewN | apply below_drew1) | exact HB.out))); (case aF => exact (fun _ _ => trivial)); (case aO => exact ((Kd.R_nil _ _ _ _ (fun _ => True)))); (case aS => exact (below_size (by repeat (first | (with_reducible first | exact HB.out | apply below_alloc | apply pw_below_drewN | apply below_drew1) | exact HB.out)))); (case aL => have := LMc2.out; omega); intro v102 w4 ho hb hg hat; rw [← Ny101.out] at ho; have n0_ := Aside0.mk (hb); have n1_ := Aside0.mk (ho); clear HB; have HB := n0_; have HO103 := n1_; clear n0_ n1_; clear ho hb hg hat) | ((with_reducible refine gate_callee (f := 114) rfl ?_); refine goesL_ (some 10) rfl rfl Tryd.func114 (by kernel_rfl) rfl #[.slice A0 l0.length c0] rfl (by (try simp only [List.map_toArray, List.map_cons, List.map_nil]); first | done | rfl | (simp only [List.length_drop, List.length_take]; rfl)) ?_; (with_reducible refine (secateurref02_Sum.calls _ _ l0 t104 _ ?side1 ?side2 A3.out).mono ?_); (case side1 => repeat (first | exact (Kd.C_below HR0.out HB.out) | (with_reducible refine Kd.C_alloc ?_ _) | (with_reducible refine Kd.C_drewN ?_ _) | (with_reducible refine Kd.C_drew ?_))); (case side2 => exact HC0.out); rintro e w' ⟨rfl, ⟨nd, rfl⟩⟩; refine ⟨_, rfl, ?_⟩))
    go_loopg [3, 5] k (fun kq v3 v5 w' => ∃ (x3_1 : List Int) (x5_1 : Int), v5 = .int .i64 x5_1 ∧ Aside0 (secateurref02_Seal.l0 kq x3_1 t104 x5_1 = some r) ∧ Aside0 (kq ≤ k) ∧ Aside0 (Kd.R (Kd.int .u8) 5 w' w.heap.size (fun _ => True) v3 x3_1) ∧ Aside0 (Below w.heap.size w w'))
    case atStart => exact ⟨(y101), (0), (by first | rfl | (simp; done) | (simp [*]; done)), H', ⟨Nat.le_refl _⟩, ⟨by (with_reducible repeat (first | apply Kd.R_alloc | apply Kd.R_drewN | apply Kd.R_drew)); exact HO103.out⟩, ⟨by repeat (first | (with_reducible first | exact HB.out | apply below_alloc | apply pw_below_drewN | apply below_drew1) | exact HB.out)⟩⟩
    case round =>
      clear H'
      try clear c1
      try clear c2
      try clear p2
      obtain ⟨x3_1, x5_1, rfl, HA, HK1, HO_3, HB⟩ := hrel
      cases gk with
      | zero => exact absurd HA.out (by simp [secateurref02_Seal.l0])
      | succ k1 =>
        have H := HA.out
        clear HA
        simp only [secateurref02_Seal.l0] at H
        by_cases c5 : x5_1 < 4
        · rw [if_pos c5] at H
          have c5b0 : decide (x5_1 < 4) = true := decide_eq_true c5
          clear c5
          obtain ⟨ji6, hji6⟩ : ∃ j_ : Int, (IntKind.u64.wrap (wrap64 (8 * x5_1))) = j_ := ⟨_, rfl⟩
          replace H : (if 0 ≤ (ji6) then (if x3_1.length < 140737488355328 then (secateurref02_Seal.l0 k1 (x3_1 ++ [(shr .u32 t104 (ji6)) % 256]) t104 (wrap64 (x5_1 + 1))) else (none)) else (none)) = some r := by first | (rw [hji6] at H; exact H) | (simp only [hji6] at H ⊢; exact H)
          by_cases c7 : 0 ≤ (ji6)
          · rw [if_pos c7] at H
            have c7b0 := eq_true c7
            have c7b1 : decide (0 ≤ (ji6)) = true := decide_eq_true c7
            clear c7
            obtain ⟨ji8, hji8⟩ : ∃ j_ : Int, (shr .u32 t104 (ji6)) = j_ := ⟨_, rfl⟩
            replace H : (if x3_1.length < 140737488355328 then (secateurref02_Seal.l0 k1 (x3_1 ++ [(ji8) % 256]) t104 (wrap64 (x5_1 + 1))) else (none)) = some r := by first | (rw [hji8] at H; exact H) | (simp only [hji8] at H ⊢; exact H)
            have hji8_ : (t104 / 2 ^ min (ji6).toNat 32) = ji8 := hji8
            have hji8z : (ji6) ≤ 32 → (t104 / 2 ^ (ji6).toNat) = ji8 := shr_small hji8
            by_cases c9 : x3_1.length < 140737488355328
            · rw [if_pos c9] at H
              have LMc9 := Aside0.mk c9
              clear c9
              obtain ⟨y105, hy105⟩ : ∃ y_ : List Int, y_ = (x3_1 ++ [(ji8) % 256]) := ⟨_, rfl⟩
              replace H : (secateurref02_Seal.l0 k1 y105 t104 (wrap64 (x5_1 + 1))) = some r := by first | (rw [hy105]; with_reducible exact H) | (have H2_ := (Option.bind_some _ _).symm.trans H; rw [hy105]; with_reducible exact H2_) | (have H2_ := (Option.bind_some _ _).symm.trans H; with_reducible exact H2_) | with_reducible exact H | (rw [hy105]; exact H) | exact H
              have Ny105 := Aside0.mk hy105
              clear hy105
              have H' := Aside0.mk H
              clear H
              go_wp2_with (first | ((with_reducible refine gate_builtin (b := .append) (xs := #[.tmp 15, .tmp 22]) rfl ?_); at_builtin; refine Kd.R_append (Kd.int .u8) (w0 := w) w.heap.size rfl (.tmp 15) (.tmp 22) 22 5 (.int .u8 0) 1 rfl Tryd.underlying22 info5 rfl (by decide) (by omega) u3 x3_1 ((ji8) % 256) [.int .u8 ((ji8) % 256)] (fun _ => True) (fun _ => False) rfl rfl ?aP (fun _ hk => hk.elim) ?aF ?aO ?aB ?aS ?aL ?_; (case aP => exact rfl); (case aB => exact (by repeat (first | (with_reducible first | exact HB.out | apply below_alloc | apply pw_below_drewN | apply below_drew1) | exact HB.out))); (case aF => exact (fun _ _ => trivial)); (case aO => exact (by (with_reducible repeat (first | apply Kd.R_alloc | apply Kd.R_drewN | apply Kd.R_drew)); exact HO_3.out)); (case aS => exact (below_size (by repeat (first | (with_reducible first | exact HB.out | apply below_alloc | apply pw_below_drewN | apply below_drew1) | exact HB.out)))); (case aL => have := LMc9.out; omega); intro v106 w10 ho hb hg hat; rw [← Ny105.out] at ho; have n0_ := Aside0.mk (hb); have n1_ := Aside0.mk (ho); clear HB; clear HO_3; have HB := n0_; have HO107 := n1_; clear n0_ n1_; clear ho hb hg hat))
              go_roundg k1
              case measure => have := HK1.out; omega
              case rel => exact ⟨(y105), (wrap64 (x5_1 + 1)), (by first | rfl | (simp; done) | (simp [*]; done)), H', ⟨by have := HK1.out; omega⟩, ⟨by (with_reducible repeat (first | apply Kd.R_alloc | apply Kd.R_drewN | apply Kd.R_drew)); exact HO107.out⟩, ⟨by repeat (first | (with_reducible first | exact HB.out | apply below_alloc | apply pw_below_drewN | apply below_drew1) | exact HB.out)⟩⟩
            · rw [if_neg c9] at H
              exact absurd H (by simp)
          · rw [if_neg c7] at H
            exact absurd H (by simp)
        · rw [if_neg c5] at H
          have c5b0 : decide (x5_1 < 4) = false := decide_eq_false c5
          clear c5
          obtain rfl := Option.some.inj H
          go_wp2
          go_ret
          exact ⟨_, by first | rfl | (simp [errW_none, errW_some] <;> rfl) | (simp [*, errW_none, errW_some] <;> rfl), by (with_reducible repeat (first | apply Kd.R_alloc | apply Kd.R_drewN | apply Kd.R_drew)); exact HO_3.out, by repeat (first | (with_reducible first | exact HB.out | apply below_alloc | apply pw_below_drewN | apply below_drew1) | exact HB.out)⟩
  · rw [if_neg c2] at H
    exact absurd H (by simp)

/-! ### secateurref02_Open: function 120 -/
def secateurref02_Open.l0 : Nat → List Int → Int → Int → Int → Option (List Int × Int)
  | 0, _, _, _, _ => none
  | k + 1, x0, x4, x5, x6 => if x6 < 4 then (if 0 ≤ (wrap64 (x4 + x6)) then (if (wrap64 (x4 + x6)) < (x0.length : Int) then (if 0 ≤ (IntKind.u64.wrap (wrap64 (8 * x6))) then (if (rd x0 (wrap64 (x4 + x6))) = ((shr .u32 x5 (IntKind.u64.wrap (wrap64 (8 * x6)))) % 256) then (secateurref02_Open.l0 k x0 x4 x5 (wrap64 (x6 + 1))) else (some (([] : List Int), 4))) else (none)) else (none)) else (none)) else (if 0 ≤ x4 then (if x4 ≤ (x0.length : Int) then (if ([] : List Int).length + (x0.take (x4 : Int).toNat).length < 140737488355328 then (some ((([] : List Int) ++ (x0.take (x4 : Int).toNat)), 0)) else (none)) else (none)) else (none))
def secateurref02_Open.f (k : Nat) (l0 : List Int) : Option (List Int × Int) := if (wrap64 ((l0.length : Int) - 4)) < 0 then (some (([] : List Int), 2)) else (if 0 ≤ (wrap64 ((l0.length : Int) - 4)) then (if (wrap64 ((l0.length : Int) - 4)) ≤ (l0.length : Int) then ((secateurref02_Sum.f (l0.take ((wrap64 ((l0.length : Int) - 4)) : Int).toNat)).bind fun t109 => (secateurref02_Open.l0 k l0 (wrap64 ((l0.length : Int) - 4)) t109 0)) else (none)) else (none))
theorem secateurref02_Open.mono_l : ∀ k, (∀ y0 y1 y2 y3, LeO (secateurref02_Open.l0 k y0 y1 y2 y3) (secateurref02_Open.l0 (k + 1) y0 y1 y2 y3))
  | 0 => fun _ _ _ _ r h => by simp [secateurref02_Open.l0] at h
  | k + 1 => by
    have ih0 := secateurref02_Open.mono_l k
    · intro y0 y1 y2 y3
      unfold secateurref02_Open.l0
      repeat' first
      | (with_reducible exact ih0 _ _ _ _)
      | (with_reducible exact LeO.refl _)
      | (with_reducible exact LeO.none _)
      | (with_reducible refine LeO.ite ?_ ?_)
      | (with_reducible refine LeO.bind ?_ (fun _ => ?_))
      | exact ih0 _ _ _ _
      | exact LeO.none _
      | refine LeO.ite ?_ ?_
      | refine LeO.bind ?_ (fun _ => ?_)
theorem secateurref02_Open.mono : ∀ a0 k, LeO (secateurref02_Open.f k a0) (secateurref02_Open.f (k + 1) a0) := by
  intro a0 k
  have ih0 := secateurref02_Open.mono_l k
  unfold secateurref02_Open.f
  repeat' first
      | (with_reducible exact ih0 _ _ _ _)
      | (with_reducible exact LeO.refl _)
      | (with_reducible exact LeO.none _)
      | (with_reducible refine LeO.ite ?_ ?_)
      | (with_reducible refine LeO.bind ?_ (fun _ => ?_))
      | exact ih0 _ _ _ _
      | exact LeO.none _
      | refine LeO.ite ?_ ?_
      | refine LeO.bind ?_ (fun _ => ?_)
set_option maxHeartbeats 8000000 in
set_option maxRecDepth 100000 in
theorem secateurref02_Open.calls (k : Nat) (A0 : Option Addr) (c0 : Nat) (l0 : List Int) (r1 : List Int) (r2 : Int) (w : World) (hr0 : Kd.C (Kd.int .u8) w A0 l0.length l0) (hc0 : l0.length ≤ c0) (h : secateurref02_Open.f k l0 = some (r1, r2)) :
    Calls Tryd.prog 120 #[.slice A0 l0.length c0] w fun e w' => ∃ v0_ : Value, e = .returned (.tuple #[v0_, .int .i64 r2]) ∧ Kd.R (Kd.int .u8) 5 w' w.heap.size (fun _ => True) v0_ r1 ∧ Below w.heap.size w w' := by
  have HR0 := Aside0.mk hr0
  have HC0 := Aside0.mk hc0
  clear hr0 hc0
  have HB := Aside0.mk (Below.refl w.heap.size w)
  have H : (if (wrap64 ((l0.length : Int) - 4)) < 0 then (some (([] : List Int), 2)) else (if 0 ≤ (wrap64 ((l0.length : Int) - 4)) then (if (wrap64 ((l0.length : Int) - 4)) ≤ (l0.length : Int) then ((secateurref02_Sum.f (l0.take ((wrap64 ((l0.length : Int) - 4)) : Int).toNat)).bind fun t109 => (secateurref02_Open.l0 k l0 (wrap64 ((l0.length : Int) - 4)) t109 0)) else (none)) else (none))) = some (r1, r2) := h
  clear h
  by_cases c2 : (wrap64 ((l0.length : Int) - 4)) < 0
  · rw [if_pos c2] at H
    have c2b0 : decide ((wrap64 ((l0.length : Int) - 4)) < 0) = true := decide_eq_true c2
    clear c2
    simp only [Option.some.injEq, Prod.mk.injEq] at H
    obtain ⟨rfl, rfl⟩ := H
    go_enter Tryd.func120, Tryd.ntmps120
    go_wp2
    go_ret2
    exact ⟨_, by first | rfl | (simp [errW_none, errW_some] <;> rfl) | (simp [*, errW_none, errW_some] <;> rfl), by first | exact Kd.R_nil _ _ _ _ _ | exact Kd.N_nil _ _ _ _ _ | exact Kd.V_nil _ _ _ _ _ | exact Kd.Q_nil _ _ _ _ _ | exact Kd.S_nil _ _ _ _ _, by repeat (first | (with_reducible first | exact HB.out | apply below_alloc | apply pw_below_drewN | apply below_drew1) | exact HB.out)⟩
  · rw [if_neg c2] at H
    have c2b0 : decide ((wrap64 ((l0.length : Int) - 4)) < 0) = false := decide_eq_false c2
    clear c2
    obtain ⟨ji3, hji3⟩ : ∃ j_ : Int, (wrap64 ((l0.length : Int) - 4)) = j_ := ⟨_, rfl⟩
    replace H : (if 0 ≤ (ji3) then (if (ji3) ≤ (l0.length : Int) then ((secateurref02_Sum.f (l0.take ((ji3) : Int).toNat)).bind fun t109 => (secateurref02_Open.l0 k l0 ji3 t109 0)) else (none)) else (none)) = some (r1, r2) := by first | (rw [hji3] at H; exact H) | (simp only [hji3] at H ⊢; exact H)
    (try rw [hji3] at c2b0)
    have hji3w : (IntKind.i64.wrap ((l0.length : Int) - 4)) = ji3 := (i64_w _).trans hji3
    by_cases c4 : 0 ≤ (ji3)
    · rw [if_pos c4] at H
      have c4b0 := eq_true c4
      have c4b1 : decide (0 ≤ (ji3)) = true := decide_eq_true c4
      clear c4
      by_cases c5 : (ji3) ≤ (l0.length : Int)
      · rw [if_pos c5] at H
        have c5b0 := eq_true c5
        have c5b1 : decide ((ji3) ≤ (l0.length : Int)) = true := decide_eq_true c5
        (try have c5c0 : (((ji3)) ≤ (c0 : Int)) = True := eq_true (by have h_ := HC0.out; omega))
        clear c5
        replace H := Option.bind_eq_some_iff.mp H
        obtain ⟨t109, A60, H⟩ := H
        replace H : (secateurref02_Open.l0 k l0 ji3 t109 0) = some (r1, r2) := H
        have A6 := Aside0.mk A60
        clear A60
        have H' := Aside0.mk H
        clear H
        obtain ⟨i07, hi07, _, hsz7, _⟩ := info_parts info5
        obtain ⟨hcut7, hA7, hC7⟩ := print_take_of (P := Tryd.prog) (Value.int .u8) 0 22 5 .i64 Tryd.underlying22 hi07 hsz7 A0 c0 l0 (ji3) (of_decide_eq_true (by first | (with_reducible assumption) | assumption)) (of_decide_eq_true (by first | (with_reducible assumption) | assumption)) HC0.out
        have HR108 := Aside0.mk (Kd.C_of_reads (h1 := fun _ => rfl) (hA7 _ (Kd.reads_of_C HR0.out)))
        have HC108 := Aside0.mk hC7
        clear hA7 hC7 hi07 hsz7
        go_enter Tryd.func120, Tryd.ntmps120
        go_wp2_with (first | ((with_reducible refine gate_callee (f := 114) rfl ?_); refine goesL_ (some 16) rfl rfl Tryd.func114 (by kernel_rfl) rfl #[.slice A0 (l0.take ((ji3) : Int).toNat).length c0] rfl (by (try simp only [List.map_toArray, List.map_cons, List.map_nil]); first | done | (rw [show (l0.take ((ji3) : Int).toNat).length = (ji3).toNat from (by rw [List.length_take]; have h_ : ((ji3) : Int) ≤ (l0.length : Int) := of_decide_eq_true (by first | (with_reducible assumption) | assumption); omega)] <;> rfl) | (simp only [hji3]; rfl) | rfl | (simp only [List.length_drop, List.length_take]; rfl)) ?_; (with_reducible refine (secateurref02_Sum.calls _ _ (l0.take ((ji3) : Int).toNat) t109 _ ?side1 ?side2 A6.out).mono ?_); (case side1 => repeat (first | exact HR108.out | (with_reducible refine Kd.C_alloc ?_ _) | (with_reducible refine Kd.C_drewN ?_ _) | (with_reducible refine Kd.C_drew ?_))); (case side2 => exact HC108.out); rintro e w' ⟨rfl, ⟨nd, rfl⟩⟩; refine ⟨_, rfl, ?_⟩))
        go_loopg [6] k (fun kq v6 w' => ∃ (x6_1 : Int), v6 = .int .i64 x6_1 ∧ Aside0 (secateurref02_Open.l0 kq l0 ji3 t109 x6_1 = some (r1, r2)) ∧ Aside0 (kq ≤ k) ∧ Aside0 (Below w.heap.size w w'))
        case atStart => exact ⟨(0), (by first | rfl | (simp; done) | (simp [*]; done)), H', ⟨Nat.le_refl _⟩, ⟨by repeat (first | (with_reducible first | exact HB.out | apply below_alloc | apply pw_below_drewN | apply below_drew1) | exact HB.out)⟩⟩
        case round =>
          clear H'
          try clear c1
          try clear c2
          try clear c2b0
          try clear p2
          try clear c4
          try clear c4b0
          try clear c4b1
          try clear c5
          try clear c5b0
          try clear c5b1
          try clear p6
          obtain ⟨x6_1, rfl, HA, HK1, HB⟩ := hrel
          cases gk with
          | zero => exact absurd HA.out (by simp [secateurref02_Open.l0])
          | succ k1 =>
            have H := HA.out
            clear HA
            simp only [secateurref02_Open.l0] at H
            by_cases c8 : x6_1 < 4
            · rw [if_pos c8] at H
              have c8b0 : decide (x6_1 < 4) = true := decide_eq_true c8
              clear c8
              obtain ⟨ji9, hji9⟩ : ∃ j_ : Int, (wrap64 (ji3 + x6_1)) = j_ := ⟨_, rfl⟩
              replace H : (if 0 ≤ (ji9) then (if (ji9) < (l0.length : Int) then (if 0 ≤ (IntKind.u64.wrap (wrap64 (8 * x6_1))) then (if (rd l0 (ji9)) = ((shr .u32 t109 (IntKind.u64.wrap (wrap64 (8 * x6_1)))) % 256) then (secateurref02_Open.l0 k1 l0 ji3 t109 (wrap64 (x6_1 + 1))) else (some (([] : List Int), 4))) else (none)) else (none)) else (none)) = some (r1, r2) := by first | (rw [hji9] at H; exact H) | (simp only [hji9] at H ⊢; exact H)
              have hji9w : (IntKind.i64.wrap (ji3 + x6_1)) = ji9 := (i64_w _).trans hji9
              by_cases c10 : 0 ≤ (ji9)
              · rw [if_pos c10] at H
                have c10b0 : decide (0 ≤ (ji9)) = true := decide_eq_true c10
                clear c10
                by_cases c11 : (ji9) < (l0.length : Int)
                · rw [if_pos c11] at H
                  have c11b0 : decide ((ji9) < (l0.length : Int)) = true := decide_eq_true c11
                  clear c11
                  obtain ⟨ji12, hji12⟩ : ∃ j_ : Int, (IntKind.u64.wrap (wrap64 (8 * x6_1))) = j_ := ⟨_, rfl⟩
                  replace H : (if 0 ≤ (ji12) then (if (rd l0 (ji9)) = ((shr .u32 t109 (ji12)) % 256) then (secateurref02_Open.l0 k1 l0 ji3 t109 (wrap64 (x6_1 + 1))) else (some (([] : List Int), 4))) else (none)) = some (r1, r2) := by first | (rw [hji12] at H; exact H) | (simp only [hji12] at H ⊢; exact H)
                  by_cases c13 : 0 ≤ (ji12)
                  · rw [if_pos c13] at H
                    have c13b0 := eq_true c13
                    have c13b1 : decide (0 ≤ (ji12)) = true := decide_eq_true c13
                    clear c13
                    obtain ⟨ji14, hji14⟩ : ∃ j_ : Int, (shr .u32 t109 (ji12)) = j_ := ⟨_, rfl⟩
                    replace H : (if (rd l0 (ji9)) = ((ji14) % 256) then (secateurref02_Open.l0 k1 l0 ji3 t109 (wrap64 (x6_1 + 1))) else (some (([] : List Int), 4))) = some (r1, r2) := by first | (rw [hji14] at H; exact H) | (simp only [hji14] at H ⊢; exact H)
                    have hji14_ : (t109 / 2 ^ min (ji12).toNat 32) = ji14 := hji14
                    have hji14z : (ji12) ≤ 32 → (t109 / 2 ^ (ji12).toNat) = ji14 := shr_small hji14
                    by_cases c15 : (rd l0 (ji9)) = ((ji14) % 256)
                    · rw [if_pos c15] at H
                      have c15b0 : ((rd l0 (ji9)) == ((ji14) % 256)) = true := beq_iff_eq.mpr c15
                      have c15b1 : ((rd l0 (ji9)) != ((ji14) % 256)) = false := bne_eq_false_iff_eq.mpr c15
                      clear c15
                      have H' := Aside0.mk H
                      clear H
                      have p110 : 0 ≤ ((ji9) : Int) := of_decide_eq_true (by first | (with_reducible assumption) | assumption)
                      have q110 : (ji9) < (l0.length : Int) := of_decide_eq_true (by first | (with_reducible assumption) | assumption)
                      obtain ⟨ad110, e110, hx110_0⟩ := Kd.at_int HR0.out (ji9) p110 q110
                      cases e110
                      replace hx110_0 := (HB.out.cell (World.block_lt_of_cell? w _ hx110_0)).trans hx110_0
                      replace p110 := eq_true p110
                      replace q110 := eq_true q110
                      go_wp2
                      go_roundg k1
                      case measure => have := HK1.out; omega
                      case rel => exact ⟨(wrap64 (x6_1 + 1)), (by first | rfl | (simp; done) | (simp [*]; done)), H', ⟨by have := HK1.out; omega⟩, ⟨by repeat (first | (with_reducible first | exact HB.out | apply below_alloc | apply pw_below_drewN | apply below_drew1) | exact HB.out)⟩⟩
                    · rw [if_neg c15] at H
                      have c15b0 : ((rd l0 (ji9)) == ((ji14) % 256)) = false := beq_eq_false_iff_ne.mpr c15
                      have c15b1 : ((rd l0 (ji9)) != ((ji14) % 256)) = true := bne_iff_ne.mpr c15
                      simp only [Option.some.injEq, Prod.mk.injEq] at H
                      obtain ⟨rfl, rfl⟩ := H
                      have p110 : 0 ≤ ((ji9) : Int) := of_decide_eq_true (by first | (with_reducible assumption) | assumption)
                      have q110 : (ji9) < (l0.length : Int) := of_decide_eq_true (by first | (with_reducible assumption) | assumption)
                      obtain ⟨ad110, e110, hx110_0⟩ := Kd.at_int HR0.out (ji9) p110 q110
                      cases e110
                      replace hx110_0 := (HB.out.cell (World.block_lt_of_cell? w _ hx110_0)).trans hx110_0
                      replace p110 := eq_true p110
                      replace q110 := eq_true q110
                      go_wp2
                      go_ret2
                      exact ⟨_, by first | rfl | (simp [errW_none, errW_some] <;> rfl) | (simp only [← hji3, ← hji9, ← hji12, ← hji14]; first | rfl | (simp [errW_none, errW_some] <;> rfl)) | (simp [*, errW_none, errW_some] <;> rfl), by first | exact Kd.R_nil _ _ _ _ _ | exact Kd.N_nil _ _ _ _ _ | exact Kd.V_nil _ _ _ _ _ | exact Kd.Q_nil _ _ _ _ _ | exact Kd.S_nil _ _ _ _ _, by repeat (first | (with_reducible first | exact HB.out | apply below_alloc | apply pw_below_drewN | apply below_drew1) | exact HB.out)⟩
                  · rw [if_neg c13] at H
                    exact absurd H (by simp)
                · rw [if_neg c11] at H
                  exact absurd H (by simp)
              · rw [if_neg c10] at H
                exact absurd H (by simp)
            · rw [if_neg c8] at H
              have c8b0 : decide (x6_1 < 4) = false := decide_eq_false c8
              clear c8
              by_cases c16 : 0 ≤ ji3
              · rw [if_pos c16] at H
                have c16b0 := eq_true c16
                have c16b1 : decide (0 ≤ ji3) = true := decide_eq_true c16
                clear c16
                by_cases c17 : ji3 ≤ (l0.length : Int)
                · rw [if_pos c17] at H
                  have c17b0 := eq_true c17
                  have c17b1 : decide (ji3 ≤ (l0.length : Int)) = true := decide_eq_true c17
                  (try have c17c0 : ((ji3) ≤ (c0 : Int)) = True := eq_true (by have h_ := HC0.out; omega))
                  clear c17
                  by_cases c18 : ([] : List Int).length + (l0.take (ji3 : Int).toNat).length < 140737488355328
                  · rw [if_pos c18] at H
                    have LMc18 := Aside0.mk c18
                    clear c18
                    obtain ⟨y112, hy112⟩ : ∃ y_ : List Int, y_ = (([] : List Int) ++ (l0.take (ji3 : Int).toNat)) := ⟨_, rfl⟩
                    replace H : (some (y112, 0)) = some (r1, r2) := by first | (rw [hy112]; with_reducible exact H) | (have H2_ := (Option.bind_some _ _).symm.trans H; rw [hy112]; with_reducible exact H2_) | (have H2_ := (Option.bind_some _ _).symm.trans H; with_reducible exact H2_) | with_reducible exact H | (rw [hy112]; exact H) | exact H
                    have Ny112 := Aside0.mk hy112
                    clear hy112
                    simp only [Option.some.injEq, Prod.mk.injEq] at H
                    obtain ⟨rfl, rfl⟩ := H
                    obtain ⟨i019, hi019, _, hsz19, _⟩ := info_parts info5
                    obtain ⟨hcut19, hA19, hC19⟩ := print_take_of (P := Tryd.prog) (Value.int .u8) 0 22 5 .i64 Tryd.underlying22 hi019 hsz19 A0 c0 l0 ji3 (of_decide_eq_true (by first | (with_reducible assumption) | assumption)) (of_decide_eq_true (by first | (with_reducible assumption) | assumption)) HC0.out
                    have HR111 := Aside0.mk (Kd.C_of_reads (h1 := fun _ => rfl) (hA19 _ (Kd.reads_of_C HR0.out)))
                    have HC111 := Aside0.mk hC19
                    clear hA19 hC19 hi019 hsz19
                    go_wp2_with (first | ((with_reducible refine gate_builtin (b := .append) (xs := #[.tmp 34, .tmp 37]) rfl ?_); at_builtin; refine Kd.R_append_rows (Kd.int .u8) (w0 := w) w.heap.size rfl (.tmp 34) (.tmp 37) 22 5 (.int .u8 0) 1 rfl Tryd.underlying22 info5 rfl (by decide) (by omega) (.slice none 0 0) ([] : List Int) (l0.take (ji3 : Int).toNat) _ _ _ (fun _ => True) (fun _ => False) rfl rfl ?aO ?aR (fun _ _ h => h) (fun _ h => h.elim) ?aF ?aB ?aS ?aL ?_; (case aR => first | (refine Eq.subst (motive := fun n_ => Kd.C (Kd.int .u8) _ _ n_ (l0.take (ji3 : Int).toNat)) (show (l0.take (ji3 : Int).toNat).length = ji3.toNat from (by rw [List.length_take]; have h_ : (ji3 : Int) ≤ (l0.length : Int) := of_decide_eq_true (by first | (with_reducible assumption) | assumption); omega)) ?_; repeat (first | exact (Kd.C_below HR111.out HB.out) | (with_reducible refine Kd.C_alloc ?_ _) | (with_reducible refine Kd.C_drewN ?_ _) | (with_reducible refine Kd.C_drew ?_)); done) | (rw [← show (l0.take (ji3 : Int).toNat).length = ji3.toNat from (by rw [List.length_take]; have h_ : (ji3 : Int) ≤ (l0.length : Int) := of_decide_eq_true (by first | (with_reducible assumption) | assumption); omega)]; repeat (first | exact (Kd.C_below HR111.out HB.out) | (with_reducible refine Kd.C_alloc ?_ _) | (with_reducible refine Kd.C_drewN ?_ _) | (with_reducible refine Kd.C_drew ?_))) | (repeat (first | exact (Kd.C_below HR111.out HB.out) | (with_reducible refine Kd.C_alloc ?_ _) | (with_reducible refine Kd.C_drewN ?_ _) | (with_reducible refine Kd.C_drew ?_)))); (case aB => exact (by repeat (first | (with_reducible first | exact HB.out | apply below_alloc | apply pw_below_drewN | apply below_drew1) | exact HB.out))); (case aF => exact (fun _ _ => trivial)); (case aO => exact ((Kd.R_nil _ _ _ _ (fun _ => True)))); (case aS => exact (below_size (by repeat (first | (with_reducible first | exact HB.out | apply below_alloc | apply pw_below_drewN | apply below_drew1) | exact HB.out)))); (case aL => have := LMc18.out; have hlx_ := (show (l0.take (ji3 : Int).toNat).length = ji3.toNat from (by rw [List.length_take]; have h_ : (ji3 : Int) ≤ (l0.length : Int) := of_decide_eq_true (by first | (with_reducible assumption) | assumption); omega)); omega); intro v113 w20 ho hb hg hat; rw [← Ny112.out] at ho; have n0_ := Aside0.mk (hb); have n1_ := Aside0.mk (ho); clear HB; have HB := n0_; have HO114 := n1_; clear n0_ n1_; clear ho hb hg hat))
                    go_ret2
                    exact ⟨_, by first | rfl | (simp [errW_none, errW_some] <;> rfl) | (simp only [← hji3]; first | rfl | (simp [errW_none, errW_some] <;> rfl)) | (simp [*, errW_none, errW_some] <;> rfl), by (with_reducible repeat (first | apply Kd.R_alloc | apply Kd.R_drewN | apply Kd.R_drew)); exact HO114.out, by repeat (first | (with_reducible first | exact HB.out | apply below_alloc | apply pw_below_drewN | apply below_drew1) | exact HB.out)⟩
                  · rw [if_neg c18] at H
                    exact absurd H (by simp)
                · rw [if_neg c17] at H
                  exact absurd H (by simp)
              · rw [if_neg c16] at H
                exact absurd H (by simp)
      · rw [if_neg c5] at H
        exact absurd H (by simp)
    · rw [if_neg c4] at H
      exact absurd H (by simp)

end Go.Proofs.YtmlbfepibfobaaaDoor.Q3
end

section
-- Written by this session's program layer.py (the kit's print, turned), not by hand.
namespace Go.Proofs.YtmlbfepibfobaaaDoor.Q3
open Go.RowKit Go.Proofs.YtmlbfepibfobaaaDoorW.PrintWords Go.Proofs.YtmlbfepibfobaaaDoorW.PrintLast Go.Proofs.YtmlbfepibfobaaaDoorW.PrintMore Go.Proofs.YtmlbfepibfobaaaDoor.Hand
attribute [local go_sem] max2_int min2_int max_two min_two max_three min_three max_four min_four   -- for this text's walks alone
set_option linter.unusedVariables false
set_option linter.unusedSimpArgs false

end Go.Proofs.YtmlbfepibfobaaaDoor.Q3
end

section
namespace Go.Proofs.YtmlbfepibfobaaaDoor.Hand
open Go.RowKit Go.Proofs.YtmlbfepibfobaaaDoorW.PrintWords Go.Proofs.YtmlbfepibfobaaaDoorW.PrintLast Go.Proofs.YtmlbfepibfobaaaDoorW.PrintMore
set_option linter.unusedVariables false
set_option linter.unusedSimpArgs false

def secateurref02_Seal.f (l0 : List Int) : Option (List Int) := crc_Seal.f l0
def secateurref02_Open.f (l0 : List Int) : Option (List Int × Int) := crc_Open.f l0
theorem shr_u32 (s n : Int) (h : n.toNat ≤ 32) : shr .u32 s n = s / 2 ^ n.toNat := by
  show s / 2 ^ min n.toNat 32 = _
  rw [Nat.min_eq_left h]
theorem sealR_step (k : Nat) (x : List Int) (s i : Int) (h0 : 0 ≤ i) (h1 : i < 4) (hx : x.length < 140737488355328) : Q3.secateurref02_Seal.l0 (k + 1) x s i = Q3.secateurref02_Seal.l0 k (x ++ [s / 2 ^ (8 * i).toNat % 256]) s (i + 1) := by
  have e : IntKind.u64.wrap (wrap64 (8 * i)) = 8 * i := by
    rw [w64 (by omega) (by omega)]
    show (8 * i) % 18446744073709551616 = _
    omega
  rw [Q3.secateurref02_Seal.l0, e, if_pos h1, if_pos (by omega), if_pos hx, shr_u32 _ _ (by omega), w64 (by omega) (by omega)]
theorem sealR_eq (l : List Int) (hb : l.all byteB = true) (hl : l.length ≤ 70368744177664) : Q3.secateurref02_Seal.f 5 l = some (sealL l) := by
  unfold Q3.secateurref02_Seal.f
  have hs : secateurref02_Sum.f l = some (crcSum l) := by show crc_Sum.f l = _; unfold crc_Sum.f; rw [if_pos hb]
  rw [if_pos (by simp; omega), hs, Option.bind_some, List.nil_append, sealR_step _ _ _ _ (by omega) (by omega) (by omega), sealR_step _ _ _ _ (by omega) (by omega) (by simp; omega), sealR_step _ _ _ _ (by omega) (by omega) (by simp; omega), sealR_step _ _ _ _ (by omega) (by omega) (by simp; omega), Q3.secateurref02_Seal.l0, if_neg (by omega)]
  have hr := crcSum_range l
  simp [sealL, sumBytes]
  omega
theorem openR_step (k : Nat) (l : List Int) (n : Nat) (s : Int) (i : Nat) (h1 : i < 4) (hn : l.length = n + 4) (hl : l.length ≤ 70368744177664) : Q3.secateurref02_Open.l0 (k + 1) l n s i = if l.getD (n + i) 0 = s / 2 ^ (8 * i) % 256 then Q3.secateurref02_Open.l0 k l n s ((i + 1 : Nat) : Int) else some ([], 4) := by
  have e : IntKind.u64.wrap (wrap64 (8 * (i : Int))) = ((8 * i : Nat) : Int) := by
    rw [w64 (by omega) (by omega)]
    show (8 * (i : Int)) % 18446744073709551616 = _
    omega
  have e2 : wrap64 ((n : Int) + i) = ((n + i : Nat) : Int) := by rw [w64 (by omega) (by omega)]; push_cast; rfl
  rw [Q3.secateurref02_Open.l0, e, e2, if_pos (by omega), if_pos (by omega), if_pos (by omega), if_pos (by omega), shr_u32 _ _ (by omega), w64 (by omega) (by omega), rd_nat]
  rfl
theorem openR_eq (l : List Int) (hb : l.all byteB = true) (hl : l.length ≤ 70368744177664) : Q3.secateurref02_Open.f 5 l = some (openL l) := by
  unfold Q3.secateurref02_Open.f openL
  rw [w64 (by omega) (by omega)]
  by_cases h : l.length < 4
  · rw [if_pos (by omega), if_pos h]
  · obtain ⟨n, hn⟩ : ∃ n, l.length = n + 4 := ⟨l.length - 4, by omega⟩
    have e : (l.length : Int) - 4 = (n : Int) := by omega
    have e2 : l.length - 4 = n := by omega
    rw [if_neg (by omega), if_neg h, if_pos (by omega), if_pos (by omega), e, e2, Int.toNat_natCast]
    have hs : secateurref02_Sum.f (l.take n) = some (crcSum (l.take n)) := by
      show crc_Sum.f _ = _
      unfold crc_Sum.f
      rw [if_pos (List.all_eq_true.2 (fun x hx => List.all_eq_true.1 hb x (List.mem_of_mem_take hx)))]
    rw [hs, Option.bind_some]
    have hr := crcSum_range (l.take n)
    obtain ⟨s, hs⟩ : ∃ s, s = crcSum (l.take n) := ⟨_, rfl⟩
    rw [← hs] at hr ⊢
    have hd : l.drop n = [l.getD n 0, l.getD (n + 1) 0, l.getD (n + 2) 0, l.getD (n + 3) 0] := by
      rw [drop_cons l (i := n) (by omega), drop_cons l (i := n + 1) (by omega), drop_cons l (i := n + 2) (by omega), drop_cons l (i := n + 3) (by omega), List.drop_of_length_le (by omega)]
    rw [hd]
    have st := fun k i h1 => openR_step k l n s i h1 hn hl
    have s0 := st 4 0 (by omega)
    have s1 := st 3 1 (by omega)
    have s2 := st 2 2 (by omega)
    have s3 := st 1 3 (by omega)
    have s4 : Q3.secateurref02_Open.l0 1 l n s ((4 : Nat) : Int) = some (l.take n, 0) := by
      rw [Q3.secateurref02_Open.l0, if_neg (by omega), if_pos (by omega), if_pos (by omega), if_pos (by simp; omega), Int.toNat_natCast, List.nil_append]
    rw [s4] at s3
    rw [s3] at s2
    rw [s2] at s1
    rw [s1] at s0
    refine s0.trans ?_
    clear s0 s1 s2 s3 s4 st hd hs
    simp only [Nat.add_zero, sumBytes, List.cons.injEq, and_true]
    generalize l.getD n 0 = a
    generalize l.getD (n + 1) 0 = b
    generalize l.getD (n + 2) 0 = c
    generalize l.getD (n + 3) 0 = d
    have p0 : s / 2 ^ (8 * 0) % 256 = s % 256 := by show s / 1 % 256 = _; omega
    have p1 : s / 2 ^ (8 * 1) % 256 = s / 256 % 256 := rfl
    have p2 : s / 2 ^ (8 * 2) % 256 = s / 65536 % 256 := rfl
    have p3 : s / 2 ^ (8 * 3) % 256 = s / 16777216 := by show s / 16777216 % 256 = _; omega
    rw [p0, p1, p2, p3]
    by_cases q0 : a = s % 256
    · by_cases q1 : b = s / 256 % 256
      · by_cases q2 : c = s / 65536 % 256
        · by_cases q3 : d = s / 16777216
          · simp [q0, q1, q2, q3]
          · simp [q0, q1, q2, q3]
        · simp [q0, q1, q2]
      · simp [q0, q1]
    · simp [q0]
theorem secateurref02_Seal.calls (A0 : Option Addr) (c0 : Nat) (l0 : List Int) (r : List Int) (w : World) (hr0 : Kd.C (Kd.int .u8) w A0 l0.length l0) (hc0 : l0.length ≤ c0) (h : secateurref02_Seal.f l0 = some r) :
    Calls Tryd.prog 78 #[.slice A0 l0.length c0] w fun e w' => ∃ v0_ : Value, e = .returned (v0_) ∧ Kd.R (Kd.int .u8) 5 w' w.heap.size (fun _ => True) v0_ r ∧ Below w.heap.size w w' := by
  have h : crc_Seal.f l0 = some r := h
  unfold crc_Seal.f at h
  split at h
  · rename_i hg
    exact Q3.secateurref02_Seal.calls 5 A0 c0 l0 r w hr0 hc0 ((sealR_eq l0 hg.1 hg.2).trans h)
  · cases h
theorem secateurref02_Open.calls (A0 : Option Addr) (c0 : Nat) (l0 : List Int) (r1 : List Int) (r2 : Int) (w : World) (hr0 : Kd.C (Kd.int .u8) w A0 l0.length l0) (hc0 : l0.length ≤ c0) (h : secateurref02_Open.f l0 = some (r1, r2)) :
    Calls Tryd.prog 120 #[.slice A0 l0.length c0] w fun e w' => ∃ v0_ : Value, e = .returned (.tuple #[v0_, .int .i64 r2]) ∧ Kd.R (Kd.int .u8) 5 w' w.heap.size (fun _ => True) v0_ r1 ∧ Below w.heap.size w w' := by
  have h : crc_Open.f l0 = some (r1, r2) := h
  unfold crc_Open.f at h
  split at h
  · rename_i hg
    exact Q3.secateurref02_Open.calls 5 A0 c0 l0 r1 r2 w hr0 hc0 ((openR_eq l0 hg.1 hg.2).trans h)
  · cases h
end Go.Proofs.YtmlbfepibfobaaaDoor.Hand
end

section
namespace Go.Proofs.YtmlbfepibfobaaaDoor.Hand
open Go.RowKit Go.Proofs.YtmlbfepibfobaaaDoorW.PrintWords Go.Proofs.YtmlbfepibfobaaaDoorW.PrintLast Go.Proofs.YtmlbfepibfobaaaDoorW.PrintMore
set_option linter.unusedVariables false
set_option linter.unusedSimpArgs false

/-- A reader in its block. -/
def RrW (w : World) (b : Nat) (A : Option Addr) (c : Nat) (l : List Int) (m ix : Nat) (e fa : Int) : Prop :=
  w.heap[b]? = some (.cells #[.slice A l.length c, .int .i64 (ix : Int), .int .i64 (m : Int), .int .i64 e, .int .i64 fa] 97 (0, 0)) ∧ Kd.C (Kd.int .u8) w A l.length l
theorem rr_cells {w : World} {b : Nat} {A : Option Addr} {c : Nat} {l : List Int} {m ix : Nat} {e fa : Int} (h : RrW w b A c l m ix e fa) :
    w.cell? ⟨b, 0, none⟩ = some (.slice A l.length c) ∧ w.cell? ⟨b, 1, none⟩ = some (.int .i64 (ix : Int)) ∧ w.cell? ⟨b, 2, none⟩ = some (.int .i64 (m : Int)) ∧ w.cell? ⟨b, 3, none⟩ = some (.int .i64 e) ∧ w.cell? ⟨b, 4, none⟩ = some (.int .i64 fa) ∧ w.frozen? ⟨b, 1, none⟩ = false ∧ w.frozen? ⟨b, 3, none⟩ = false ∧ w.frozen? ⟨b, 4, none⟩ = false := by
  have h0 := blk_cell h.1 0
  have h1 := blk_cell h.1 1
  have h2 := blk_cell h.1 2
  have h3 := blk_cell h.1 3
  have h4 := blk_cell h.1 4
  simp only [List.getElem?_toArray, List.getElem?_cons_zero, List.getElem?_cons_succ] at h0 h1 h2 h3 h4
  exact ⟨h0, h1, h2, h3, h4, blk_frozen h.1 1, blk_frozen h.1 3, blk_frozen h.1 4⟩
theorem rr_lt {w : World} {b : Nat} {A : Option Addr} {c : Nat} {l : List Int} {m ix : Nat} {e fa : Int} (h : RrW w b A c l m ix e fa) : b < w.heap.size := (Array.getElem?_eq_some_iff.1 h.1).1
theorem rr_kept {w w' : World} {b : Nat} {A : Option Addr} {c : Nat} {l : List Int} {m ix : Nat} {e fa : Int} {r : Nat} (h : RrW w b A c l m ix e fa) (hg : w.grownBy w' (some r)) (hne : b ≠ r) (hA : ∀ ad, A = some ad → ad.block ≠ r) : RrW w' b A c l m ix e fa :=
  ⟨(hg.block b (rr_lt h) (fun e => hne (Option.some.inj e))).trans h.1, C_grown h.2 hg hA⟩
theorem rr_below {w w' : World} {b : Nat} {A : Option Addr} {c : Nat} {l : List Int} {m ix : Nat} {e fa : Int} (h : RrW w b A c l m ix e fa) (hB : Below w.heap.size w w') : RrW w' b A c l m ix e fa :=
  ⟨(hB.block b (rr_lt h)).trans h.1, Kd.C_below h.2 hB⟩
theorem rr_set1 {w : World} {b : Nat} {A : Option Addr} {c : Nat} {l : List Int} {m ix : Nat} {e fa : Int} (h : RrW w b A c l m ix e fa) (hA : ∀ ad, A = some ad → ad.block ≠ b) (n : Nat) : RrW (w.setCell ⟨b, 1, none⟩ (.int .i64 (n : Int))) b A c l m n e fa := by
  have h2 := blk_set h.1 1 (.int .i64 (n : Int))
  simp only [List.setIfInBounds_toArray, List.set_cons_zero, List.set_cons_succ] at h2
  exact ⟨h2, C_grown h.2 (wgrown_setCell w ⟨b, 1, none⟩ _) hA⟩
theorem rr_set3 {w : World} {b : Nat} {A : Option Addr} {c : Nat} {l : List Int} {m ix : Nat} {e fa : Int} (h : RrW w b A c l m ix e fa) (hA : ∀ ad, A = some ad → ad.block ≠ b) (n : Int) : RrW (w.setCell ⟨b, 3, none⟩ (.int .i64 n)) b A c l m ix n fa := by
  have h2 := blk_set h.1 3 (.int .i64 n)
  simp only [List.setIfInBounds_toArray, List.set_cons_zero, List.set_cons_succ] at h2
  exact ⟨h2, C_grown h.2 (wgrown_setCell w ⟨b, 3, none⟩ _) hA⟩
theorem rr_set4 {w : World} {b : Nat} {A : Option Addr} {c : Nat} {l : List Int} {m ix : Nat} {e fa : Int} (h : RrW w b A c l m ix e fa) (hA : ∀ ad, A = some ad → ad.block ≠ b) (n : Int) : RrW (w.setCell ⟨b, 4, none⟩ (.int .i64 n)) b A c l m ix e n := by
  have h2 := blk_set h.1 4 (.int .i64 n)
  simp only [List.setIfInBounds_toArray, List.set_cons_zero, List.set_cons_succ] at h2
  exact ⟨h2, C_grown h.2 (wgrown_setCell w ⟨b, 4, none⟩ _) hA⟩
theorem rr_byte {w : World} {b : Nat} {A : Option Addr} {c : Nat} {l : List Int} {m ix : Nat} {e fa : Int} (h : RrW w b A c l m ix e fa) (hA : ∀ ad, A = some ad → ad.block ≠ b) (i : Nat) (hi : i < l.length) : ∃ ad, A = some ad ∧ ad.block ≠ b ∧ w.cell? (ad.add i) = some (.int .u8 (l.getD i 0)) := by
  obtain ⟨ad, had, hcell⟩ := ReadsOf.at_ (Kd.reads_of_C (d := (0 : Int)) h.2) (i : Int) (by omega) (by omega)
  rw [Int.toNat_natCast] at hcell
  exact ⟨ad, had, hA ad had, hcell⟩
theorem rr_take {w : World} {b : Nat} {A : Option Addr} {c : Nat} {l : List Int} {m ix : Nat} {e fa : Int} (h : RrW w b A c l m ix e fa) (n : Nat) (hn : n ≤ l.length) : Kd.C (Kd.int .u8) w A (l.take n).length (l.take n) :=
  Kd.C_of_reads (d := (0 : Int)) (h1 := fun _ => rfl) (by have := (Kd.reads_of_C (d := (0 : Int)) h.2).take_ n hn; rw [take_len hn]; exact this)

set_option maxHeartbeats 8000000 in
set_option maxRecDepth 20000 in
theorem ref_alive (b : Nat) (A : Option Addr) (c : Nat) (l : List Int) (m ix : Nat) (fa : Int) (w : World) (h : RrW w b A c l m ix 0 fa) :
    Calls Tryd.prog 116 #[.pointer (some ⟨b, 0, none⟩)] w fun x w' => x = .returned (.bool false) ∧ w' = w := by
  obtain ⟨h0, h1, h2, h3, h4, f1, f3, f4⟩ := rr_cells h
  go_enter Tryd.func116, Tryd.ntmps116
  go_wp2
  go_ret
  exact ⟨rfl, rfl⟩

set_option maxHeartbeats 8000000 in
set_option maxRecDepth 20000 in
theorem ref_dead (b : Nat) (A : Option Addr) (c : Nat) (l : List Int) (m ix : Nat) (e fa : Int) (w : World) (h : RrW w b A c l m ix e fa) (he : e ≠ 0) :
    Calls Tryd.prog 116 #[.pointer (some ⟨b, 0, none⟩)] w fun x w' => x = .returned (.bool true) ∧ w' = w := by
  obtain ⟨h0, h1, h2, h3, h4, f1, f3, f4⟩ := rr_cells h
  have he' : (e != 0) = true := by simp [he]
  have he2 : (e == 0) = false := beq_eq_false_iff_ne.2 he
  go_enter Tryd.func116, Tryd.ntmps116
  go_wp2
  go_ret
  exact ⟨rfl, rfl⟩

set_option maxHeartbeats 8000000 in
set_option maxRecDepth 20000 in
theorem ref_fail (b : Nat) (A : Option Addr) (c : Nat) (l : List Int) (m ix : Nat) (fa : Int) (w : World) (h : RrW w b A c l m ix 0 fa) (hf : RdF b A c l m) (y z : Int) :
    Calls Tryd.prog 117 #[.pointer (some ⟨b, 0, none⟩), .int .i64 y, .int .i64 z] w fun x w' => x = .returned (.tuple #[]) ∧ RrW w' b A c l m ix y z ∧ w.grownBy w' (some b) := by
  have HR := Aside0.mk h
  have HA := Aside0.mk hf.far
  obtain ⟨h0, h1, h2, h3, h4, f1, f3, f4⟩ := rr_cells h
  clear h hf
  go_enter Tryd.func117, Tryd.ntmps117
  go_wp2
  go_end0
  exact ⟨rfl, rr_set4 (rr_set3 HR.out HA.out _) HA.out _, (wgrown_setCell _ ⟨b, 3, none⟩ _).trans (wgrown_setCell _ ⟨b, 4, none⟩ _)⟩

def RrS (w : World) (b : Nat) (A : Option Addr) (c : Nat) (l : List Int) (m : Nat) (s : St) : Prop := RrW w b A c l m s.1 s.2.1 s.2.2

set_option maxHeartbeats 8000000 in
set_option maxRecDepth 20000 in
theorem refS_Byte (b : Nat) (A : Option Addr) (c : Nat) (l : List Int) (m : Nat) (s : St) (w : World) (h : RrS w b A c l m s) (hf : RdF b A c l m) (hi : InvS m s) :
    Calls Tryd.prog 85 #[.pointer (some ⟨b, 0, none⟩)] w fun x w' => x = .returned (.int .u8 (byteS l m s).1) ∧ RrS w' b A c l m (byteS l m s).2 ∧ w.grownBy w' (some b) := by
  obtain ⟨ix, e, fa⟩ := s
  obtain ⟨hi1, hi2⟩ := hi
  dsimp only at hi1 hi2
  unfold byteS RrS at *
  dsimp only at *
  by_cases he : e = 0
  · subst he
    rw [if_pos rfl]
    have HD := Aside0.mk (ref_alive b A c l m ix fa w h)
    have hm := hf.to_
    have hl := hf.len
    by_cases hlt : ix < m
    · rw [if_pos hlt]
      obtain ⟨h0, h1, h2, h3, h4, f1, f3, f4⟩ := rr_cells h
      have hd : decide ((ix : Int) ≥ (m : Int)) = false := decide_eq_false (by omega)
      have hd' : decide (m ≤ ix) = false := decide_eq_false (by omega)
      have hsum : IntKind.i64.wrap ((ix : Int) + 1) = (ix : Int) + 1 := IntWalk.i64_in _ ⟨by omega, by omega⟩
      have hsub : IntKind.i64.wrap ((ix : Int) + 1 - 1) = (ix : Int) := by rw [show (ix : Int) + 1 - 1 = ix by omega]; exact IntWalk.i64_in _ ⟨by omega, by omega⟩
      obtain ⟨ad, had, hne, hcell⟩ := rr_byte h hf.far ix (by omega)
      subst had
      have hcell2 : ∀ n v, ((w.drewN n).setCell ⟨b, 1, none⟩ v).cell? (ad.add ix) = some (.int .u8 (l.getD ix 0)) := fun n v => by
        rw [World.cell?_setCell_other _ _ _ _ (fun e => hne (by have := congrArg Addr.block e; rw [add_block] at this; exact this.symm))]
        exact hcell
      have HR := Aside0.mk (fun n => rr_set1 (rr_below h (pw_below_drewN (Below.refl _ w) n)) hf.far (ix + 1))
      clear h hf
      go_enter Tryd.func85, Tryd.ntmps85
      go_wp2_with (go_at_call 116; refine HD.out.mono ?_; rintro e w1 ⟨rfl, rfl⟩)
      go_quiet (fail)
      go_wp2
      go_quiet (fail)
      go_wp2
      exact bodyPost_ret (results_tmp rfl _ _ _) rfl ⟨rfl, rr_below (HR.out _) (pw_below_drewN (Below.refl _ _) _), ((wgrown_drewN _ _ b).trans (wgrown_setCell _ ⟨b, 1, none⟩ _)).trans (wgrown_drewN _ _ b)⟩
    · rw [if_neg hlt]
      obtain ⟨h0, h1, h2, h3, h4, f1, f3, f4⟩ := rr_cells h
      have hd : decide ((ix : Int) ≥ (m : Int)) = true := decide_eq_true (by omega)
      have hd' : decide (m ≤ ix) = true := decide_eq_true (by omega)
      have HR := Aside0.mk (fun n => rr_below h (pw_below_drewN (Below.refl _ w) n))
      have HF := Aside0.mk (fun W hr => ref_fail b A c l m ix fa W hr hf 2 ix)
      clear h hf
      go_enter Tryd.func85, Tryd.ntmps85
      go_wp2_with (go_at_call 116; refine HD.out.mono ?_; rintro e w1 ⟨rfl, rfl⟩)
      go_quiet (fail)
      go_wp2_with (go_at_call 117; refine (HF.out _ (HR.out _)).mono ?_; rintro e w3 ⟨rfl, hr3, hg3⟩)
      exact bodyPost_ret (results_tmp rfl _ _ _) rfl ⟨rfl, hr3, (wgrown_drewN _ _ b).trans hg3⟩
  · rw [if_neg he]
    have HD := Aside0.mk (ref_dead b A c l m ix e fa w h he)
    have HR := Aside0.mk h
    clear h hf
    go_enter Tryd.func85, Tryd.ntmps85
    go_wp2_with (go_at_call 116; refine HD.out.mono ?_; rintro e w1 ⟨rfl, rfl⟩)
    go_ret
    exact ⟨rfl, HR.out, wgrown_drewN _ 0 b⟩

set_option maxHeartbeats 8000000 in
set_option maxRecDepth 20000 in
theorem ref_take (b : Nat) (A : Option Addr) (c : Nat) (l : List Int) (m ix : Nat) (fa : Int) (w : World) (h : RrW w b A c l m ix 0 fa) (hf : RdF b A c l m) :
    Calls Tryd.prog 118 #[.pointer (some ⟨b, 0, none⟩)] w fun x w' => x = .returned (.tuple #[.int .u64 (bigS l m (ix, 0, fa)).1, .bool ((bigS l m (ix, 0, fa)).2.2.1 == 0)]) ∧ RrS w' b A c l m (bigS l m (ix, 0, fa)).2 ∧ w.grownBy w' (some b) := by
  have hm := hf.to_
  have hl := hf.len
  have hcp := hf.cap
  obtain ⟨h0, h1, h2, h3, h4, f1, f3, f4⟩ := rr_cells h
  obtain ⟨i0, hi0, hz0, hz1, hz2⟩ := info_parts leb_info
  have hcutA := cut_to (P := Tryd.prog) 22 5 .i64 Tryd.underlying22 hi0 A l.length c (m : Int) (by omega) (by omega) hf.cap
  rw [Int.toNat_natCast] at hcutA
  have HT : ∀ t, lebTake (l.take m) (ix : Int) = t → Aside0 (∀ k, Calls Tryd.prog 139 #[.slice A m c, .int .i64 (ix : Int)] (w.drewN k) fun x w' => x = .returned (.tuple #[.int .u64 t.1, .int .i64 t.2.1, .int .i64 t.2.2]) ∧ ∃ j, w' = (w.drewN k).drewN j) := fun t ht => ⟨fun k => by
    have := secateurref01_Take.calls A c (l.take m) ix t.1 t.2.1 t.2.2 (w.drewN k) (rr_take (rr_below h (pw_below_drewN (Below.refl _ w) k)) m hm) (by rw [take_len hm]; omega) (by rw [takeR_some _ (all_take m hf.byt) (by rw [take_len hm]; omega), ht])
    rw [take_len hm] at this
    exact this.mono fun x w' ⟨h1, h2⟩ => ⟨h1, h2.out⟩⟩
  have HR := Aside0.mk (fun n k => rr_set1 (rr_below h (pw_below_drewN (Below.refl _ w) n)) hf.far k)
  have HR0 := Aside0.mk (fun n => rr_below h (pw_below_drewN (Below.refl _ w) n))
  have HF := Aside0.mk (fun W hr => ref_fail b A c l m ix fa W hr hf)
  unfold bigS RrS
  dsimp only
  rw [if_pos rfl]
  rcases take_cases (ix := ix) hf.byt hf.to_ with ⟨v, n, ht, hv, hn0, hn1⟩ | ⟨v, n, y, ht, hy⟩
  · have HK := HT _ ht
    rw [ht]
    dsimp only
    rw [if_pos rfl]
    clear h hf HT ht
    go_enter Tryd.func118, Tryd.ntmps118
    go_wp2
    go_quiet ((go_at_call 139; exact Calls.quiet_of (HK.out _)))
    go_wp2
    refine bodyPost_ret (results_tmp2 rfl _ _ _) rfl ⟨rfl, HR.out _ _, (wgrown_drewN _ _ b).trans (wgrown_setCell _ ⟨b, 1, none⟩ _)⟩
  · have HK := HT _ ht
    rw [ht]
    dsimp only
    rw [if_neg hy]
    have hy' : (y != 0) = true := by simp [hy]
    have hy2 : (y == 0) = false := beq_eq_false_iff_ne.2 hy
    clear h hf HT ht
    go_enter Tryd.func118, Tryd.ntmps118
    go_wp2
    go_quiet ((go_at_call 139; exact Calls.quiet_of (HK.out _)))
    go_wp2_with (go_at_call 117; refine (HF.out _ (HR0.out _) _ _).mono ?_; rintro e w3 ⟨rfl, hr3, hg3⟩)
    refine bodyPost_ret (results_tmp2 rfl _ _ _) rfl ⟨?_, hr3, (wgrown_drewN _ _ b).trans hg3⟩
    simp [hy]

end Go.Proofs.YtmlbfepibfobaaaDoor.Hand
end

section
namespace Go.Proofs.YtmlbfepibfobaaaDoor.Hand
open Go.RowKit Go.Proofs.YtmlbfepibfobaaaDoorW.PrintWords Go.Proofs.YtmlbfepibfobaaaDoorW.PrintLast Go.Proofs.YtmlbfepibfobaaaDoorW.PrintMore
set_option linter.unusedVariables false
set_option linter.unusedSimpArgs false

set_option maxHeartbeats 8000000 in
set_option maxRecDepth 20000 in
theorem refS_Num (b : Nat) (A : Option Addr) (c : Nat) (l : List Int) (m : Nat) (s : St) (w : World) (h : RrS w b A c l m s) (hf : RdF b A c l m) (hi : InvS m s) (most : Int) (hmost : most ≤ 9223372036854775807) :
    Calls Tryd.prog 86 #[.pointer (some ⟨b, 0, none⟩), .int .i64 most] w fun x w' => x = .returned (.int .i64 (numS l m most s).1) ∧ RrS w' b A c l m (numS l m most s).2 ∧ w.grownBy w' (some b) := by
  obtain ⟨ix, e, fa⟩ := s
  obtain ⟨hi1, hi2⟩ := hi
  dsimp only at hi1 hi2
  unfold numS RrS at *
  dsimp only at *
  by_cases he : e = 0
  · subst he
    rw [if_pos rfl]
    obtain ⟨c0, c1, c2, c3, c4, f1, f3, f4⟩ := rr_cells h
    rcases take_cases (ix := ix) hf.byt hf.to_ with ⟨v, n, ht, hv, hn0, hn1⟩ | ⟨v, n, y, ht, hy⟩
    · have HD := Aside0.mk (ref_alive b A c l m ix fa w h)
      have hbig : bigS l m (ix, 0, fa) = ((v : Int), (n, 0, fa)) := by unfold bigS; dsimp only; rw [if_pos rfl, ht]; dsimp only; rw [if_pos rfl]; rfl
      have HT : Aside0 (Calls Tryd.prog 118 #[.pointer (some ⟨b, 0, none⟩)] w fun x w' => x = .returned (.tuple #[.int .u64 (v : Int), .bool true]) ∧ RrW w' b A c l m n 0 fa ∧ w.grownBy w' (some b)) := ⟨by have := ref_take b A c l m ix fa w h hf; rw [hbig] at this; exact this⟩
      have HF := Aside0.mk (fun i W hr => ref_fail b A c l m i fa W hr hf)
      have HA := Aside0.mk hf.far
      rw [ht]
      dsimp only
      rw [if_pos rfl]
      by_cases hp : most < 0
      · rw [if_pos (.inl hp)]
        have hd0 : decide (most < 0) = true := decide_eq_true hp
        clear h hf ht hbig hi2
        go_enter Tryd.func86, Tryd.ntmps86
        go_wp2_with (first | (go_at_call 116; refine HD.out.mono ?_; rintro e w1 ⟨rfl, rfl⟩) | (go_at_call 118; refine HT.out.mono ?_; rintro e w2 ⟨rfl, hr2, hg2⟩; obtain ⟨d0, d1, d2, d3, d4, g1, g3, g4⟩ := rr_cells hr2) | (go_at_call 117; refine (HF.out _ _ (rr_set1 hr2 HA.out ix) _ _).mono ?_; rintro e w3 ⟨rfl, hr3, hg3⟩))
        exact bodyPost_ret (results_tmp rfl _ _ _) rfl ⟨rfl, hr3, (hg2.trans (wgrown_setCell _ ⟨b, 1, none⟩ _)).trans hg3⟩
      · have hd0 : decide (most < 0) = false := decide_eq_false hp
        have hw1 : most % 18446744073709551616 = most := Int.emod_eq_of_lt (by omega) (by omega)
        have hw3 : IntKind.u64.wrap most = most := u64w (by omega) (by omega)
        by_cases hlt : most < (v : Int)
        · rw [if_pos (.inr hlt)]
          have hd1 : decide ((v : Int) > most) = true := decide_eq_true (by omega)
          have hd2 : decide (most < (v : Int)) = true := decide_eq_true hlt
          clear h hf ht hbig hi2
          go_enter Tryd.func86, Tryd.ntmps86
          go_wp2_with (first | (go_at_call 116; refine HD.out.mono ?_; rintro e w1 ⟨rfl, rfl⟩) | (go_at_call 118; refine HT.out.mono ?_; rintro e w2 ⟨rfl, hr2, hg2⟩; obtain ⟨d0, d1, d2, d3, d4, g1, g3, g4⟩ := rr_cells hr2) | (go_at_call 117; refine (HF.out _ _ (rr_set1 hr2 HA.out ix) _ _).mono ?_; rintro e w3 ⟨rfl, hr3, hg3⟩))
          exact bodyPost_ret (results_tmp rfl _ _ _) rfl ⟨rfl, hr3, (hg2.trans (wgrown_setCell _ ⟨b, 1, none⟩ _)).trans hg3⟩
        · rw [if_neg (by omega)]
          have hd1 : decide ((v : Int) > most) = false := decide_eq_false (by omega)
          have hd2 : decide (most < (v : Int)) = false := decide_eq_false hlt
          have hw2 : IntKind.i64.wrap (v : Int) = (v : Int) := IntWalk.i64_in _ ⟨by omega, by omega⟩
          clear h hf ht hbig hi2
          go_enter Tryd.func86, Tryd.ntmps86
          go_wp2_with (first | (go_at_call 116; refine HD.out.mono ?_; rintro e w1 ⟨rfl, rfl⟩) | (go_at_call 118; refine HT.out.mono ?_; rintro e w2 ⟨rfl, hr2, hg2⟩; obtain ⟨d0, d1, d2, d3, d4, g1, g3, g4⟩ := rr_cells hr2))
          exact bodyPost_ret (results_tmp rfl _ _ _) rfl ⟨rfl, hr2, hg2⟩
    · have HD := Aside0.mk (ref_alive b A c l m ix fa w h)
      have hbig : bigS l m (ix, 0, fa) = (0, (ix, y, (ix : Int))) := by unfold bigS; dsimp only; rw [if_pos rfl, ht]; dsimp only; rw [if_neg hy]
      have HT : Aside0 (Calls Tryd.prog 118 #[.pointer (some ⟨b, 0, none⟩)] w fun x w' => x = .returned (.tuple #[.int .u64 0, .bool false]) ∧ RrW w' b A c l m ix y ix ∧ w.grownBy w' (some b)) := ⟨by have := ref_take b A c l m ix fa w h hf; rw [hbig] at this; dsimp only at this; rw [beq_eq_false_iff_ne.2 hy] at this; exact this⟩
      rw [ht]
      dsimp only
      rw [if_neg hy]
      clear h hf ht hbig hi2
      go_enter Tryd.func86, Tryd.ntmps86
      go_wp2_with (first | (go_at_call 116; refine HD.out.mono ?_; rintro e w1 ⟨rfl, rfl⟩) | (go_at_call 118; refine HT.out.mono ?_; rintro e w2 ⟨rfl, hr2, hg2⟩; obtain ⟨d0, d1, d2, d3, d4, g1, g3, g4⟩ := rr_cells hr2))
      exact bodyPost_ret (results_tmp rfl _ _ _) rfl ⟨rfl, hr2, hg2⟩
  · rw [if_neg he]
    have HD := Aside0.mk (ref_dead b A c l m ix e fa w h he)
    have HR := Aside0.mk h
    clear h hf
    go_enter Tryd.func86, Tryd.ntmps86
    go_wp2_with (go_at_call 116; refine HD.out.mono ?_; rintro e w1 ⟨rfl, rfl⟩)
    go_ret
    exact ⟨rfl, HR.out, wgrown_drewN _ 0 b⟩

set_option maxHeartbeats 8000000 in
set_option maxRecDepth 20000 in
theorem refS_Signed (b : Nat) (A : Option Addr) (c : Nat) (l : List Int) (m : Nat) (s : St) (w : World) (h : RrS w b A c l m s) (hf : RdF b A c l m) (hi : InvS m s) :
    Calls Tryd.prog 87 #[.pointer (some ⟨b, 0, none⟩)] w fun x w' => x = .returned (.int .i64 (signS l m s).1) ∧ RrS w' b A c l m (signS l m s).2 ∧ w.grownBy w' (some b) := by
  obtain ⟨ix, e, fa⟩ := s
  obtain ⟨hi1, hi2⟩ := hi
  dsimp only at hi1 hi2
  unfold signS bigS RrS at *
  dsimp only at *
  by_cases he : e = 0
  · subst he
    rw [if_pos rfl]
    rcases take_cases (ix := ix) hf.byt hf.to_ with ⟨v, n, ht, hv, hn0, hn1⟩ | ⟨v, n, y, ht, hy⟩
    · have HD := Aside0.mk (ref_alive b A c l m ix fa w h)
      have hbig : bigS l m (ix, 0, fa) = ((v : Int), (n, 0, fa)) := by unfold bigS; dsimp only; rw [if_pos rfl, ht]; dsimp only; rw [if_pos rfl]; rfl
      have HT : Aside0 (Calls Tryd.prog 118 #[.pointer (some ⟨b, 0, none⟩)] w fun x w' => x = .returned (.tuple #[.int .u64 (v : Int), .bool true]) ∧ RrW w' b A c l m n 0 fa ∧ w.grownBy w' (some b)) := ⟨by have := ref_take b A c l m ix fa w h hf; rw [hbig] at this; exact this⟩
      have HZ : Aside0 (∀ W, Calls Tryd.prog 119 #[.int .u64 (v : Int)] W (fun e w' => e = .returned (.int .i64 (zagI (v : Int))) ∧ Drawn0 W w')) := ⟨fun W => secateurref01_Zag.calls (v : Int) _ W (by unfold secateurref01_Zag.f leb_Zag.f; rw [if_pos ⟨by omega, by omega⟩])⟩
      rw [ht]
      dsimp only
      rw [if_pos rfl]
      clear h hf ht hbig hi2
      go_enter Tryd.func87, Tryd.ntmps87
      go_wp2_with (first | (go_at_call 116; refine HD.out.mono ?_; rintro e w1 ⟨rfl, rfl⟩) | (go_at_call 118; refine HT.out.mono ?_; rintro e w2 ⟨rfl, hr2, hg2⟩; obtain ⟨d0, d1, d2, d3, d4, g1, g3, g4⟩ := rr_cells hr2) | (go_at_call 119; refine (HZ.out _).mono ?_; rintro e w3 ⟨rfl, hD⟩))
      exact bodyPost_ret (results_tmp rfl _ _ _) rfl ⟨rfl, rr_below hr2 hD.below, hg2.trans (grown_of_below hD.below _)⟩
    · have HD := Aside0.mk (ref_alive b A c l m ix fa w h)
      have hbig : bigS l m (ix, 0, fa) = (0, (ix, y, (ix : Int))) := by unfold bigS; dsimp only; rw [if_pos rfl, ht]; dsimp only; rw [if_neg hy]
      have HT : Aside0 (Calls Tryd.prog 118 #[.pointer (some ⟨b, 0, none⟩)] w fun x w' => x = .returned (.tuple #[.int .u64 0, .bool false]) ∧ RrW w' b A c l m ix y ix ∧ w.grownBy w' (some b)) := ⟨by have := ref_take b A c l m ix fa w h hf; rw [hbig] at this; dsimp only at this; rw [beq_eq_false_iff_ne.2 hy] at this; exact this⟩
      have HZ : Aside0 (∀ W, Calls Tryd.prog 119 #[.int .u64 0] W (fun e w' => e = .returned (.int .i64 0) ∧ Drawn0 W w')) := ⟨fun W => secateurref01_Zag.calls 0 _ W (by unfold secateurref01_Zag.f leb_Zag.f; rw [if_pos ⟨by decide, by decide⟩]; rfl)⟩
      rw [ht]
      dsimp only
      rw [if_neg hy, if_neg hy]
      clear h hf ht hbig hi2
      go_enter Tryd.func87, Tryd.ntmps87
      go_wp2_with (first | (go_at_call 116; refine HD.out.mono ?_; rintro e w1 ⟨rfl, rfl⟩) | (go_at_call 118; refine HT.out.mono ?_; rintro e w2 ⟨rfl, hr2, hg2⟩; obtain ⟨d0, d1, d2, d3, d4, g1, g3, g4⟩ := rr_cells hr2) | (go_at_call 119; refine (HZ.out _).mono ?_; rintro e w3 ⟨rfl, hD⟩))
      exact bodyPost_ret (results_tmp rfl _ _ _) rfl ⟨rfl, rr_below hr2 hD.below, hg2.trans (grown_of_below hD.below _)⟩
  · rw [if_neg he, if_neg he]
    have HD := Aside0.mk (ref_dead b A c l m ix e fa w h he)
    have HR := Aside0.mk h
    clear h hf
    go_enter Tryd.func87, Tryd.ntmps87
    go_wp2_with (go_at_call 116; refine HD.out.mono ?_; rintro e w1 ⟨rfl, rfl⟩)
    go_ret
    exact ⟨rfl, HR.out, wgrown_drewN _ 0 b⟩

set_option maxHeartbeats 8000000 in
set_option maxRecDepth 20000 in
theorem refS_End (b : Nat) (A : Option Addr) (c : Nat) (l : List Int) (m : Nat) (s : St) (w : World) (h : RrS w b A c l m s) (hf : RdF b A c l m) (hi : InvS m s) :
    Calls Tryd.prog 90 #[.pointer (some ⟨b, 0, none⟩)] w fun x w' => x = .returned (.bool (endS m s).1) ∧ RrS w' b A c l m (endS m s).2 ∧ w.grownBy w' (some b) := by
  obtain ⟨ix, e, fa⟩ := s
  obtain ⟨hi1, hi2⟩ := hi
  dsimp only at hi1 hi2
  unfold endS RrS at *
  dsimp only at *
  by_cases he : e = 0
  · subst he
    rw [if_pos rfl]
    have HD := Aside0.mk (ref_alive b A c l m ix fa w h)
    obtain ⟨c0, c1, c2, c3, c4, f1, f3, f4⟩ := rr_cells h
    have HR := Aside0.mk (fun n => rr_below h (pw_below_drewN (Below.refl _ w) n))
    have HF := Aside0.mk (fun i W hr => ref_fail b A c l m i fa W hr hf)
    by_cases hlt : ix = m
    · rw [if_pos hlt]
      have hd : decide ((ix : Int) < (m : Int)) = false := decide_eq_false (by omega)
      have hd' : decide (ix < m) = false := decide_eq_false (by omega)
      clear h hf hlt hi2
      go_enter Tryd.func90, Tryd.ntmps90
      go_wp2_with (go_at_call 116; refine HD.out.mono ?_; rintro e w1 ⟨rfl, rfl⟩)
      go_quiet (fail)
      go_wp2
      exact bodyPost_ret (results_tmp rfl _ _ _) rfl ⟨rfl, HR.out _, wgrown_drewN _ _ b⟩
    · rw [if_neg hlt]
      have hd : decide ((ix : Int) < (m : Int)) = true := decide_eq_true (by omega)
      have hd' : decide (ix < m) = true := decide_eq_true (by omega)
      clear h hf hlt hi2
      go_enter Tryd.func90, Tryd.ntmps90
      go_wp2_with (go_at_call 116; refine HD.out.mono ?_; rintro e w1 ⟨rfl, rfl⟩)
      go_quiet (fail)
      go_wp2_with (go_at_call 117; refine (HF.out _ _ (HR.out _) _ _).mono ?_; rintro e w3 ⟨rfl, hr3, hg3⟩)
      exact bodyPost_ret (results_tmp rfl _ _ _) rfl ⟨rfl, hr3, (wgrown_drewN _ _ b).trans hg3⟩
  · rw [if_neg he]
    have HD := Aside0.mk (ref_dead b A c l m ix e fa w h he)
    have HR := Aside0.mk h
    clear h hf
    go_enter Tryd.func90, Tryd.ntmps90
    go_wp2_with (go_at_call 116; refine HD.out.mono ?_; rintro e w1 ⟨rfl, rfl⟩)
    go_ret
    exact ⟨rfl, HR.out, wgrown_drewN _ 0 b⟩

set_option maxHeartbeats 8000000 in
set_option maxRecDepth 20000 in
theorem ref_fail_dead (b : Nat) (A : Option Addr) (c : Nat) (l : List Int) (m ix : Nat) (e fa : Int) (w : World) (h : RrW w b A c l m ix e fa) (he : e ≠ 0) (y z : Int) :
    Calls Tryd.prog 117 #[.pointer (some ⟨b, 0, none⟩), .int .i64 y, .int .i64 z] w fun x w' => x = .returned (.tuple #[]) ∧ w' = w := by
  obtain ⟨h0, h1, h2, h3, h4, f1, f3, f4⟩ := rr_cells h
  have he2 : (e == 0) = false := beq_eq_false_iff_ne.2 he
  clear h
  go_enter Tryd.func117, Tryd.ntmps117
  go_wp2
  go_end0
  exact ⟨rfl, rfl⟩

set_option maxHeartbeats 8000000 in
set_option maxRecDepth 20000 in
theorem refS_Fail (b : Nat) (A : Option Addr) (c : Nat) (l : List Int) (m : Nat) (s : St) (w : World) (h : RrS w b A c l m s) (hf : RdF b A c l m) (hi : InvS m s) (y : Int) :
    Calls Tryd.prog 92 #[.pointer (some ⟨b, 0, none⟩), .int .i64 y] w fun x w' => x = .returned (.tuple #[]) ∧ RrS w' b A c l m (failS y s) ∧ w.grownBy w' (some b) := by
  obtain ⟨ix, e, fa⟩ := s
  obtain ⟨hi1, hi2⟩ := hi
  dsimp only at hi1 hi2
  unfold failS RrS at *
  dsimp only at *
  have HR := Aside0.mk h
  obtain ⟨c0, c1, c2, c3, c4, f1, f3, f4⟩ := rr_cells h
  by_cases hy : y = 0
  · subst hy
    have e : (if e = 0 then ((ix, 0, if (0 : Int) = 0 then 0 else (ix : Int)) : St) else (ix, e, fa)) = (ix, e, fa) := by
      split
      · rename_i he
        rw [if_pos rfl, he, hi2 he]
      · rfl
    rw [e]
    clear e h hf
    go_enter Tryd.func92, Tryd.ntmps92
    go_wp2
    go_end0
    exact ⟨rfl, HR.out, wgrown_drewN _ 0 b⟩
  · have hy' : (y != 0) = true := by simp [hy]
    by_cases he : e = 0
    · subst he
      rw [if_pos rfl, if_neg hy]
      have HF := Aside0.mk (fun i W hr => ref_fail b A c l m i fa W hr hf)
      clear h hf
      go_enter Tryd.func92, Tryd.ntmps92
      go_wp2_with (go_at_call 117; refine (HF.out _ _ HR.out _ _).mono ?_; rintro e w3 ⟨rfl, hr3, hg3⟩)
      go_end0
      exact ⟨rfl, hr3, hg3⟩
    · rw [if_neg he]
      have HF := Aside0.mk (ref_fail_dead b A c l m ix e fa w h he y ix)
      clear h hf
      go_enter Tryd.func92, Tryd.ntmps92
      go_wp2_with (go_at_call 117; refine HF.out.mono ?_; rintro e w3 ⟨rfl, rfl⟩)
      go_end0
      exact ⟨rfl, HR.out, wgrown_drewN _ 0 b⟩

set_option maxHeartbeats 8000000 in
set_option maxRecDepth 20000 in
theorem ref_Fault (b : Nat) (A : Option Addr) (c : Nat) (l : List Int) (m ix : Nat) (e fa : Int) (w : World) (h : RrW w b A c l m ix e fa) :
    Calls Tryd.prog 83 #[.pointer (some ⟨b, 0, none⟩)] w fun x w' => x = .returned (.agg #[.int .i64 e, .int .i64 fa]) ∧ Below w.heap.size w w' := by
  have hlt := rr_lt h
  obtain ⟨c0, c1, c2, c3, c4, f1, f3, f4⟩ := rr_cells h
  clear h
  go_enter Tryd.func83, Tryd.ntmps83
  go_wp2
  refine ⟨rfl, .agg #[.int .i64 e, .int .i64 fa], by simp [results, Tryd.results83, go_sem], rfl, ?_⟩
  exact below_alloc (Below.refl _ _) _
theorem ref_At (b : Nat) (A : Option Addr) (c : Nat) (l : List Int) (m ix : Nat) (e fa : Int) (w : World) (h : RrW w b A c l m ix e fa) :
    Calls Tryd.prog 81 #[.pointer (some ⟨b, 0, none⟩)] w fun x w' => x = .returned (.int .i64 (ix : Int)) ∧ w' = w := by
  obtain ⟨c0, c1, c2, c3, c4, f1, f3, f4⟩ := rr_cells h
  clear h
  go_enter Tryd.func81, Tryd.ntmps81
  go_wp2
  go_ret
  exact ⟨rfl, rfl⟩
set_option maxHeartbeats 8000000 in
set_option maxRecDepth 20000 in
theorem ref_Left (b : Nat) (A : Option Addr) (c : Nat) (l : List Int) (m ix : Nat) (e fa : Int) (w : World) (h : RrW w b A c l m ix e fa) (hm : m ≤ 140737488351232) (hi : ix ≤ m) :
    Calls Tryd.prog 82 #[.pointer (some ⟨b, 0, none⟩)] w fun x w' => x = .returned (.int .i64 (if e = 0 then (m : Int) - ix else 0)) ∧ Drawn0 w w' := by
  obtain ⟨c0, c1, c2, c3, c4, f1, f3, f4⟩ := rr_cells h
  by_cases he : e = 0
  · subst he
    have HD := Aside0.mk (ref_alive b A c l m ix fa w h)
    have hw0 : IntKind.i64.wrap ((m : Int) - ix) = (m : Int) - ix := IntWalk.i64_in _ ⟨by omega, by omega⟩
    clear h
    go_enter Tryd.func82, Tryd.ntmps82
    go_wp2_with (go_at_call 116; refine HD.out.mono ?_; rintro e w1 ⟨rfl, rfl⟩)
    go_quiet (fail)
    go_wp2
    go_ret
    exact ⟨rfl, ⟨_, rfl⟩⟩
  · rw [if_neg he]
    have HD := Aside0.mk (ref_dead b A c l m ix e fa w h he)
    clear h
    go_enter Tryd.func82, Tryd.ntmps82
    go_wp2_with (go_at_call 116; refine HD.out.mono ?_; rintro e w1 ⟨rfl, rfl⟩)
    go_ret
    exact ⟨rfl, Drawn0.refl _⟩

end Go.Proofs.YtmlbfepibfobaaaDoor.Hand
end

section
namespace Go.Proofs.YtmlbfepibfobaaaDoor.Hand
open Go.RowKit Go.Proofs.YtmlbfepibfobaaaDoorW.PrintWords Go.Proofs.YtmlbfepibfobaaaDoorW.PrintLast Go.Proofs.YtmlbfepibfobaaaDoorW.PrintMore
set_option linter.unusedVariables false
set_option linter.unusedSimpArgs false

theorem C_cut {w : World} {A : Option Addr} {l : List Int} {ix n : Nat} (h : Kd.C (Kd.int .u8) w A l.length l) {c : Nat} (hc : l.length ≤ c) (hn : ix + n ≤ l.length) : Kd.C (Kd.int .u8) w (if c = ix then A else A.map (·.add (ix * 1))) n (cutN l ix n) := by
  have := Kd.C_mid (lo := ix) (hi := ix + n) (c := c) h (by omega) hn hc
  have hlen := cutN_len (l := l) (ix := ix) (n := n) hn
  unfold cutN at hlen ⊢
  rw [hlen] at this
  exact this
set_option maxHeartbeats 8000000 in
set_option maxRecDepth 20000 in
theorem refS_Text (b : Nat) (A : Option Addr) (c : Nat) (l : List Int) (m : Nat) (s : St) (w : World) (h : RrS w b A c l m s) (hf : RdF b A c l m) (hi : InvS m s) :
    Calls Tryd.prog 88 #[.pointer (some ⟨b, 0, none⟩)] w fun x w' => x = .returned (.string (textS l m s).1) ∧ RrS w' b A c l m (textS l m s).2 ∧ w.grownBy w' (some b) := by
  have hN := refS_Num b A c l m s w h hf hi 64 (by decide)
  obtain ⟨hj1, hj2⟩ := numS_inv (most := 64) hf.byt hf.to_ hi
  have hj3 : s.2.1 ≠ 0 → (numS l m 64 s).2.2.1 ≠ 0 := fun h => by rw [(dead_stays (l := l) (m := m) h).2.1 64]; exact h
  unfold textS
  obtain ⟨p, hp⟩ : ∃ p, p = numS l m 64 s := ⟨_, rfl⟩
  rw [← hp] at hN hj1 hj2 hj3 ⊢
  obtain ⟨v, n, y, fa⟩ := p
  unfold RrS at hN ⊢
  dsimp only at hN hj1 hj2 hj3 ⊢
  have HN := Aside0.mk hN
  have hnm : n ≤ m := hj1.1
  have hm := hf.to_
  have hl := hf.len
  by_cases hy : y = 0
  · subst hy
    rw [if_pos rfl]
    have hs0 : s.2.1 = 0 := by
      by_cases h : s.2.1 = 0
      · exact h
      · exact absurd rfl (hj3 h)
    obtain ⟨hv0, hv1⟩ := hj2 rfl hs0
    obtain ⟨j, rfl⟩ : ∃ j : Nat, v = (j : Int) := ⟨v.toNat, by omega⟩
    simp only [Int.toNat_natCast]
    have HD := Aside0.mk (fun W hr => ref_alive b A c l m n fa W hr)
    have hw0 : IntKind.i64.wrap ((m : Int) - n) = (m : Int) - n := IntWalk.i64_in _ ⟨by omega, by omega⟩
    by_cases hle : n + j ≤ m
    · rw [if_pos hle]
      have hd : decide ((m : Int) - n < j) = false := decide_eq_false (by omega)
      have hsum : IntKind.i64.wrap ((n : Int) + j) = (n : Int) + j := IntWalk.i64_in _ ⟨by omega, by omega⟩
      have hsub : IntKind.i64.wrap ((n : Int) + j - j) = (n : Int) := by rw [show (n : Int) + j - j = n by omega]; exact IntWalk.i64_in _ ⟨by omega, by omega⟩
      have hsub' : IntKind.i64.wrap (n : Int) = (n : Int) := IntWalk.i64_in _ ⟨by omega, by omega⟩
      obtain ⟨i0, hi0, hz0, hz1, hz2⟩ := info_parts leb_info
      obtain ⟨A', hA'⟩ : ∃ A', A' = (if c = n then A else A.map (·.add (n * 1))) := ⟨_, rfl⟩
      have hcut := cut_mid (P := Tryd.prog) 22 5 .i64 .i64 Tryd.underlying22 hi0 1 hz1 A l.length c (n : Int) ((n : Int) + j) (by omega) (by omega) (by omega) hf.cap
      have e1 : ((n : Int) + j).toNat = n + j := by omega
      have e2 : n + j - n = j := by omega
      rw [Int.toNat_natCast, e1, e2, ← hA'] at hcut
      have hstr : ∀ W, Kd.C (Kd.int .u8) W A' j (cutN l n j) → (convert 22 9 (.slice A' j (c - n))).run Tryd.prog W = .ok (.string (strOfNums (cutN l n j))) W := fun W hC => Kd.C_string (e := 5) (by kernel_rfl) (by kernel_rfl) (by kernel_rfl) hC
      have HK := Aside0.mk (fun W (hr : RrW W b A c l m n 0 fa) k => rr_set1 (rr_below hr (pw_below_drewN (Below.refl _ W) k)) hf.far (n + j))
      have HC : Aside0 (∀ W, RrW W b A c l m (n + j) 0 fa → (convert 22 9 (.slice A' j (c - n))).run Tryd.prog W = .ok (.string (strOfNums (cutN l n j))) W) := ⟨fun W hr => hstr W (by rw [hA']; exact C_cut hr.2 hf.cap (by omega))⟩
      clear h hf hN hj1 hj2 hj3 hp hi hA' hstr e1 e2 hs0
      go_enter Tryd.func88, Tryd.ntmps88
      go_wp2_with (first | (go_at_call 86; refine HN.out.mono ?_; rintro e w2 ⟨rfl, hr2, hg2⟩; obtain ⟨d0, d1, d2, d3, d4, g1, g3, g4⟩ := rr_cells hr2) | (go_at_call 116; refine (HD.out _ hr2).mono ?_; rintro e w1 ⟨rfl, rfl⟩))
      go_quiet (fail)
      go_wp2
      have hr4 := HK.out _ hr2 nq
      have hcv : ∀ k, (convert 22 9 (.slice A' j (c - n))).run Tryd.prog (((w1.drewN nq).setCell ⟨b, 1, none⟩ (.int .i64 ((n : Int) + j))).drewN k) = .ok (.string (strOfNums (cutN l n j))) (((w1.drewN nq).setCell ⟨b, 1, none⟩ (.int .i64 ((n : Int) + j))).drewN k) := fun k => HC.out _ (rr_below hr4 (pw_below_drewN (Below.refl _ _) k))
      go_quiet (fail)
      go_wp2
      exact bodyPost_ret (results_tmp rfl _ _ _) rfl ⟨rfl, rr_below hr4 (pw_below_drewN (Below.refl _ _) _), ((hg2.trans (wgrown_drewN _ _ b)).trans (wgrown_setCell _ ⟨b, 1, none⟩ _)).trans (wgrown_drewN _ _ b)⟩
    · rw [if_neg hle]
      have hd : decide ((m : Int) - n < j) = true := decide_eq_true (by omega)
      have HF := Aside0.mk (fun i W hr => ref_fail b A c l m i fa W hr hf)
      clear h hf hN hj1 hj2 hj3 hp hi hs0
      go_enter Tryd.func88, Tryd.ntmps88
      go_wp2_with (first | (go_at_call 86; refine HN.out.mono ?_; rintro e w2 ⟨rfl, hr2, hg2⟩; obtain ⟨d0, d1, d2, d3, d4, g1, g3, g4⟩ := rr_cells hr2) | (go_at_call 116; refine (HD.out _ hr2).mono ?_; rintro e w1 ⟨rfl, rfl⟩))
      go_quiet (fail)
      go_wp2_with (go_at_call 117; refine (HF.out _ _ (rr_below hr2 (pw_below_drewN (Below.refl _ _) _)) _ _).mono ?_; rintro e w3 ⟨rfl, hr3, hg3⟩)
      exact bodyPost_ret (results_tmp rfl _ _ _) rfl ⟨rfl, hr3, (hg2.trans (wgrown_drewN _ _ b)).trans hg3⟩
  · rw [if_neg hy]
    have HD := Aside0.mk (fun W hr => ref_dead b A c l m n y fa W hr hy)
    clear h hf hN hj1 hj2 hj3 hp hi hy
    go_enter Tryd.func88, Tryd.ntmps88
    go_wp2_with (first | (go_at_call 86; refine HN.out.mono ?_; rintro e w2 ⟨rfl, hr2, hg2⟩; obtain ⟨d0, d1, d2, d3, d4, g1, g3, g4⟩ := rr_cells hr2) | (go_at_call 116; refine (HD.out _ hr2).mono ?_; rintro e w1 ⟨rfl, rfl⟩))
    exact bodyPost_ret (results_tmp rfl _ _ _) rfl ⟨rfl, hr2, hg2⟩
set_option maxHeartbeats 8000000 in
set_option maxRecDepth 20000 in
theorem ref_Open (A0 : Option Addr) (c0 : Nat) (l : List Int) (w : World) (hr0 : Kd.C (Kd.int .u8) w A0 l.length l) (hc0 : l.length ≤ c0) (hb : l.all byteB = true) (hl : l.length ≤ 140737488351232) :
    Calls Tryd.prog 31 #[.slice A0 l.length c0] w fun x w' => (∃ b A c, x = .returned (.pointer (some ⟨b, 0, none⟩)) ∧ w.heap.size ≤ b ∧ RrW w' b A c l l.length 0 0 0 ∧ RdF b A c l l.length ∧ ∀ ad, A = some ad → w.heap.size ≤ ad.block ∧ ad.block < w'.heap.size) ∧ Below w.heap.size w w' := by
  have HC := Aside0.mk hr0
  clear hr0
  go_enter Tryd.func31, Tryd.ntmps31
  go_wp2_with (at_builtin; refine Kd.R_append_rows (Kd.int .u8) (w0 := w) w.heap.size rfl (.tmp 4) (.tmp 5) 22 5 (.int .u8 0) 1 rfl Tryd.underlying22 leb_info rfl (by decide) (by omega) (.slice none 0 0) ([] : List Int) l _ _ _ (fun _ => True) (fun _ => False) rfl rfl ?aO ?aR (fun _ _ h => h) (fun _ h => h.elim) ?aF ?aB ?aS ?aL ?_; (case aR => exact HC.out); (case aB => exact Below.refl _ _); (case aF => exact (fun _ _ => trivial)); (case aO => exact Kd.R_nil _ _ _ _ _); (case aS => exact Nat.le_refl _); (case aL => (simp only [List.length_nil]; omega)); intro v1 w1 hR hB1 hg1 hat1; obtain ⟨A, c, rfl, hc, hCC⟩ := Kd.R_reads hR)
  go_ret
  have hcells := World.alloc_heap_new w1 (.cells #[.slice A l.length c, .int .i64 0, .int .i64 (l.length : Int), .int .i64 0, .int .i64 0] 97)
  refine ⟨⟨w1.heap.size, A, c, rfl, hB1.size, ⟨hcells, Kd.C_alloc hCC _⟩, ⟨hc, hb, hl, Nat.le_refl _, ?_⟩, ?_⟩, below_alloc hB1 _⟩
  all_goals rintro ad rfl
  rotate_left
  · obtain ⟨g, rfl⟩ := Kd.R_head hR
    exact ⟨Kd.R_base hR g (by simp [Value.ownBlock]), Nat.lt_of_lt_of_le (Kd.R_lt hR g (by simp [Value.ownBlock])) (below_alloc (Below.refl _ w1) _).size⟩
  obtain ⟨g, rfl⟩ := Kd.R_head hR
  exact Nat.ne_of_lt (Kd.R_lt hR g (by simp [Value.ownBlock]))
end Go.Proofs.YtmlbfepibfobaaaDoor.Hand
end

section
namespace Go.Proofs.YtmlbfepibfobaaaDoor.Hand
open Go.RowKit Go.Proofs.YtmlbfepibfobaaaDoorW.PrintWords Go.Proofs.YtmlbfepibfobaaaDoorW.PrintLast Go.Proofs.YtmlbfepibfobaaaDoorW.PrintMore
set_option linter.unusedVariables false
set_option linter.unusedSimpArgs false

set_option maxHeartbeats 8000000 in
set_option maxRecDepth 20000 in
theorem refS_Section (b : Nat) (A : Option Addr) (c : Nat) (l : List Int) (m : Nat) (s : St) (w : World) (h : RrS w b A c l m s) (hf : RdF b A c l m) (hi : InvS m s) (id : Int) :
    Calls Tryd.prog 89 #[.pointer (some ⟨b, 0, none⟩), .int .u8 id] w fun x w' => (match (sectS l m id s).1 with | none => x = .returned (.pointer none) | some p => ∃ B, x = .returned (.pointer (some ⟨B, 0, none⟩)) ∧ w.heap.size ≤ B ∧ RrS w' B A c l p.2 (p.1, 0, 0) ∧ RdF B A c l p.2) ∧ RrS w' b A c l m (sectS l m id s).2 ∧ w.grownBy w' (some b) := by
  by_cases he : s.2.1 = 0
  · have hB := refS_Byte b A c l m s w h hf hi
    have hi1 := byteS_inv (l := l) hi
    have hN := fun W hr => refS_Num b A c l m (byteS l m s).2 W hr hf hi1 65536 (by decide)
    obtain ⟨hj1, hj2⟩ := numS_inv (most := 65536) hf.byt hf.to_ hi1
    unfold sectS
    rw [if_pos he]
    have hbs : (byteS l m s).2.2.1 = 0 → (byteS l m s).2 = (s.1 + 1, 0, s.2.2) := fun h => by
      unfold byteS at h ⊢
      rw [if_pos he] at h ⊢
      split
      · rfl
      · rename_i hlt
        rw [if_neg hlt] at h
        simp at h
    obtain ⟨p, hp⟩ : ∃ p, p = byteS l m s := ⟨_, rfl⟩
    rw [← hp] at hB hi1 hN hj1 hj2 hbs ⊢
    obtain ⟨z, ix1, y1, fa1⟩ := p
    obtain ⟨ix, e, fa⟩ := s
    dsimp only at hB hi1 hN hj1 hj2 hbs he ⊢
    subst he
    obtain ⟨q, hq⟩ : ∃ q, q = numS l m 65536 (ix1, y1, fa1) := ⟨_, rfl⟩
    rw [← hq] at hN hj1 hj2 ⊢
    obtain ⟨v, n, y, fa2⟩ := q
    unfold RrS at h hB hN ⊢
    dsimp only at h hB hN hj1 hj2 ⊢
    have HD0 := Aside0.mk (ref_alive b A c l m ix fa w h)
    obtain ⟨c0, c1, c2, c3, c4, f1, f3, f4⟩ := rr_cells h
    have HB := Aside0.mk hB
    have HN := Aside0.mk hN
    have hm := hf.to_
    have hl := hf.len
    clear hq hp
    by_cases h1 : y1 = 0
    · subst h1
      obtain ⟨q1, -, q2⟩ : ix1 = ix + 1 ∧ True ∧ fa1 = fa := by
        have := hbs rfl
        simp only [Prod.mk.injEq] at this
        exact this
      subst q1
      have q3 := q2.symm
      subst q3
      rw [if_pos rfl]
      have HD1 := Aside0.mk (fun W hr => ref_alive b A c l m (ix + 1) fa W hr)
      by_cases h2 : z = id
      · subst h2
        rw [if_pos rfl]
        have hz : (z != z) = false := by simp
        have hnm : n ≤ m := hj1.1
        by_cases h3 : y = 0
        · subst h3
          rw [if_pos rfl]
          obtain ⟨hv0, hv1⟩ := hj2 rfl rfl
          obtain ⟨j, rfl⟩ : ∃ j : Nat, v = (j : Int) := ⟨v.toNat, by omega⟩
          simp only [Int.toNat_natCast]
          unfold bodyS
          have HD2 := Aside0.mk (fun W hr => ref_alive b A c l m n fa2 W hr)
          have hw0 : IntKind.i64.wrap ((m : Int) - n) = (m : Int) - n := IntWalk.i64_in _ ⟨by omega, by omega⟩
          have hj4 : IntKind.i64.wrap ((j : Int) + 4) = (j : Int) + 4 := IntWalk.i64_in _ ⟨by omega, by omega⟩
          by_cases h4 : m < n + (j + 4)
          · rw [if_pos h4]
            have hd : decide ((m : Int) - n < (j : Int) + 4) = true := decide_eq_true (by omega)
            have HF := Aside0.mk (fun i fa W hr => ref_fail b A c l m i fa W hr hf)
            clear h hf hN hB hj1 hj2 hi1 hi hbs
            go_enter Tryd.func89, Tryd.ntmps89
            go_wp2_with fail
            refine HD0.out.mono ?_
            rintro e w1 ⟨rfl, rfl⟩
            go_wp2_with fail
            refine HB.out.mono ?_
            rintro e w2 ⟨rfl, hr2, hg2⟩
            go_wp2_with fail
            refine (HD1.out _ hr2).mono ?_
            rintro e w2' ⟨rfl, rfl⟩
            go_wp2_with fail
            refine (HN.out _ hr2).mono ?_
            rintro e w3 ⟨rfl, hr3, hg3⟩
            obtain ⟨d0, d1, d2, d3, d4, g1, g3, g4⟩ := rr_cells hr3
            go_wp2_with fail
            refine (HD2.out _ hr3).mono ?_
            rintro e w3' ⟨rfl, rfl⟩
            go_wp2_with fail
            go_quiet (fail)
            go_wp2_with fail
            refine (HF.out _ _ _ (rr_below hr3 (pw_below_drewN (Below.refl _ _) _)) _ _).mono ?_
            rintro e w4 ⟨rfl, hr4, hg4⟩
            go_wp2
            exact bodyPost_ret (results_tmp rfl _ _ _) rfl ⟨rfl, hr4, ((hg2.trans hg3).trans (wgrown_drewN _ _ b)).trans hg4⟩
          · rw [if_neg h4]
            have hd : decide ((m : Int) - n < (j : Int) + 4) = false := decide_eq_false (by omega)
            have hcp := hf.cap
            have hs1 : IntKind.i64.wrap ((n : Int) + j) = (n : Int) + j := IntWalk.i64_in _ ⟨by omega, by omega⟩
            have hs2 : IntKind.i64.wrap ((n : Int) + j + 4) = (n : Int) + j + 4 := IntWalk.i64_in _ ⟨by omega, by omega⟩
            have hs3 : IntKind.i64.wrap ((n : Int) + (j + 4)) = (n : Int) + (j + 4) := IntWalk.i64_in _ ⟨by omega, by omega⟩
            obtain ⟨i0, hi0, hz0, hz1, hz2⟩ := info_parts leb_info
            obtain ⟨A', hA'⟩ : ∃ A', A' = (if c = n then A else A.map (·.add (n * 1))) := ⟨_, rfl⟩
            have hcut := cut_mid (P := Tryd.prog) 22 5 .i64 .i64 Tryd.underlying22 hi0 1 hz1 A l.length c (n : Int) ((n : Int) + j + 4) (by omega) (by omega) (by omega) hf.cap
            have e1 : ((n : Int) + j + 4).toNat = n + (j + 4) := by omega
            have e2 : n + (j + 4) - n = j + 4 := by omega
            rw [Int.toNat_natCast, e1, e2, ← hA'] at hcut
            have hlen := cutN_len (l := l) (ix := n) (n := j + 4) (by omega)
            have hby : (cutN l n (j + 4)).all byteB = true := List.all_eq_true.2 (fun x hx => List.all_eq_true.1 hf.byt x (List.mem_of_mem_take (List.mem_of_mem_drop hx)))
            obtain ⟨r1, r2, hop⟩ : ∃ r1 r2, openL (cutN l n (j + 4)) = (r1, r2) := ⟨_, _, rfl⟩
            have HO : Aside0 (∀ W, RrW W b A c l m n 0 fa2 → Calls Tryd.prog 120 #[.slice A' ((j + 4 : Nat)) (c - n)] W fun e w' => ∃ v0_ : Value, e = .returned (.tuple #[v0_, .int .i64 r2]) ∧ Below W.heap.size W w') := ⟨fun W hr => by
              have hC := C_cut (ix := n) (n := j + 4) hr.2 hf.cap (by omega)
              rw [← hA'] at hC
              have := secateurref02_Open.calls A' (c - n) (cutN l n (j + 4)) r1 r2 W (by rw [hlen]; exact hC) (by omega) (by unfold secateurref02_Open.f crc_Open.f; rw [if_pos ⟨hby, by omega⟩, hop])
              rw [hlen] at this
              exact this.mono fun e w' ⟨v0, h1, _, h3⟩ => ⟨v0, h1, h3⟩⟩
            rw [hop]
            dsimp only
            have HF := Aside0.mk (fun i fa W hr => ref_fail b A c l m i fa W hr hf)
            by_cases h5 : r2 = 0
            · subst h5
              rw [if_pos rfl]
              have HFF := Aside0.mk hf
              have H0 := Aside0.mk h
              have HL := Aside0.mk (show 0 < l.length ∧ n + j ≤ l.length by omega)
              clear h hf hN hB hj1 hj2 hi1 hi hbs hop hlen hby hA' e1 e2 hi0 hz0 hz1 hz2 hcp
              go_enter Tryd.func89, Tryd.ntmps89
              go_wp2_with fail
              refine HD0.out.mono ?_
              rintro e w1 ⟨rfl, rfl⟩
              go_wp2_with fail
              refine HB.out.mono ?_
              rintro e w2 ⟨rfl, hr2, hg2⟩
              go_wp2_with fail
              refine (HD1.out _ hr2).mono ?_
              rintro e w2' ⟨rfl, rfl⟩
              go_wp2_with fail
              refine (HN.out _ hr2).mono ?_
              rintro e w3 ⟨rfl, hr3, hg3⟩
              obtain ⟨d0, d1, d2, d3, d4, g1, g3, g4⟩ := rr_cells hr3
              go_wp2_with fail
              refine (HD2.out _ hr3).mono ?_
              rintro e w3' ⟨rfl, rfl⟩
              go_wp2_with fail
              go_quiet (fail)
              go_wp2_with fail
              have hr3n := rr_below hr3 (below_drew1 (pw_below_drewN (Below.refl _ w3') nq))
              refine start_ (n := 22) (S := fun w' => w'.cell? ⟨b, 0, none⟩ = some (.slice A l.length c) ∧ w'.cell? ⟨b, 1, none⟩ = some (.int .i64 (n : Int)) ∧ RrW w' b A c l m n 0 fa2 ∧ w3'.grownBy w' (some b)) (ds := []) #[false, false, false, false, false, false, false, false, false, false, false, false, false, false, false, false, false, false, false, false, false, false] (by kernel_rfl) rfl rfl ⟨(rr_cells hr3n).1, (rr_cells hr3n).2.1, hr3n, grown_of_below (below_drew1 (pw_below_drewN (Below.refl _ w3') nq)) _⟩ (fun hHeld => ?_)
              kp 0 54 #[true, false, false, false, false, false, false, false, false, false, false, false, false, false, false, false, false, false, false, false, false, false]
              kp 1 55 #[true, true, false, false, false, false, false, false, false, false, false, false, false, false, false, false, false, false, false, false, false, false]
              kp 2 56 #[true, true, true, false, false, false, false, false, false, false, false, false, false, false, false, false, false, false, false, false, false, false]
              kp 3 57 #[true, true, true, true, false, false, false, false, false, false, false, false, false, false, false, false, false, false, false, false, false, false]
              kp 4 58 #[true, true, true, true, true, false, false, false, false, false, false, false, false, false, false, false, false, false, false, false, false, false]
              kp 5 59 #[true, true, true, true, true, true, false, false, false, false, false, false, false, false, false, false, false, false, false, false, false, false]
              kp 6 60 #[true, true, true, true, true, true, true, false, false, false, false, false, false, false, false, false, false, false, false, false, false, false]
              kp 7 61 #[true, true, true, true, true, true, true, true, false, false, false, false, false, false, false, false, false, false, false, false, false, false]
              kp 8 62 #[true, true, true, true, true, true, true, true, true, false, false, false, false, false, false, false, false, false, false, false, false, false]
              kp 9 63 #[true, true, true, true, true, true, true, true, true, true, false, false, false, false, false, false, false, false, false, false, false, false]
              kp 10 64 #[true, true, true, true, true, true, true, true, true, true, true, false, false, false, false, false, false, false, false, false, false, false]
              kp 11 65 #[true, true, true, true, true, true, true, true, true, true, true, true, false, false, false, false, false, false, false, false, false, false]
              kp 12 66 #[true, true, true, true, true, true, true, true, true, true, true, true, true, false, false, false, false, false, false, false, false, false]
              kp 13 67 #[true, true, true, true, true, true, true, true, true, true, true, true, true, true, false, false, false, false, false, false, false, false]
              kp 14 68 #[true, true, true, true, true, true, true, true, true, true, true, true, true, true, true, false, false, false, false, false, false, false]
              kp 15 69 #[true, true, true, true, true, true, true, true, true, true, true, true, true, true, true, true, false, false, false, false, false, false]
              refine one_ (i := 16) (N := some 70) #[true, true, true, true, true, true, true, true, true, true, true, true, true, true, true, true, true, false, false, false, false, false] rfl rfl (by kernel_rfl) (by decide) (fun K hK => ?_)
              refine goes_ Tryd.func120 (by kernel_rfl) rfl #[.slice A' (j + 4) (c - n)] (by rfl) rfl rfl (by simp only [List.map_toArray, List.map_cons, List.map_nil]; rfl) ?_
              refine (HO.out _ hHeld.2.2.1).mono ?_
              rintro e w5 ⟨v5, rfl, hB5⟩
              refine ⟨_, rfl, ?_⟩
              have hr5 := rr_below hHeld.2.2.1 hB5
              refine hK.out _ _ ⟨(rr_cells hr5).1, (rr_cells hr5).2.1, hr5, hHeld.2.2.2.trans (grown_of_below hB5 _)⟩ (fun hHeld => ?_)
              clear hK K
              refine norm_ (a' := ?_) ?_ ?_
              rotate_left
              · show Act.put _ (some 70) _ = _
                simp only [Act.put, List.setIfInBounds_toArray, List.set_cons_zero, List.set_cons_succ, i64_w, i32_w]
                rfl
              kp 17 53 #[true, true, true, true, true, true, true, true, true, true, true, true, true, true, true, true, true, true, false, false, false, false]
              kp 18 71 #[true, true, true, true, true, true, true, true, true, true, true, true, true, true, true, true, true, true, true, false, false, false]
              kp 19 72 #[true, true, true, true, true, true, true, true, true, true, true, true, true, true, true, true, true, true, true, true, false, false]
              kp 20 8 #[true, true, true, true, true, true, true, true, true, true, true, true, true, true, true, true, true, true, true, true, true, false]
              kp 21 9 #[true, true, true, true, true, true, true, true, true, true, true, true, true, true, true, true, true, true, true, true, true, true]
              refine done_ (by kernel_rfl) ?_
              clear d0 d1 d2 d3 d4 g1 g3 g4
              obtain ⟨d0, d1, d2, d3, d4, g1, g3, g4⟩ := rr_cells hr5
              have hlt := rr_lt hr5
              go_wp2
              go_region
              all_goals go_wp2
              have hG5 := (hg2.trans hg3).trans hHeld.2.2.2
              have hx := rr_set1 hr5 HFF.out.far (n + (j + 4))
              obtain ⟨o, ho⟩ : ∃ o, o = Obj.cells #[.slice A l.length c, .int .i64 (n : Int), .int .i64 ((n : Int) + j), .int .i64 0, .int .i64 0] 97 := ⟨_, rfl⟩
              have hb6 := below_drew1 (below_alloc (Below.refl (w5.setCell ⟨b, 1, none⟩ (.int .i64 ((n + (j + 4) : Nat) : Int))).heap.size _) o)
              have hy := rr_below hx hb6
              have hnew := World.alloc_heap_new (w5.setCell ⟨b, 1, none⟩ (.int .i64 ((n + (j + 4) : Nat) : Int))) o
              rw [World.size_setCell] at hnew
              subst ho
              refine bodyPost_ret (results_tmp rfl _ _ _) rfl ⟨⟨w5.heap.size, rfl, hG5.size, ⟨hnew, hy.2⟩, ⟨HFF.out.cap, HFF.out.byt, HFF.out.len, HL.out.2, fun ad e => Nat.ne_of_lt (C_far hr5.2 HL.out.1 ad e)⟩⟩, hy, (hG5.trans (wgrown_setCell _ ⟨b, 1, none⟩ _)).trans (grown_of_below hb6 _)⟩
            · rw [if_neg h5]
              have h5' : (r2 != 0) = true := by simp [h5]
              have H0 := Aside0.mk h
              clear h hf hN hB hj1 hj2 hi1 hi hbs hop hlen hby hA' e1 e2 hi0 hz0 hz1 hz2 hcp h5
              go_enter Tryd.func89, Tryd.ntmps89
              go_wp2_with fail
              refine HD0.out.mono ?_
              rintro e w1 ⟨rfl, rfl⟩
              go_wp2_with fail
              refine HB.out.mono ?_
              rintro e w2 ⟨rfl, hr2, hg2⟩
              go_wp2_with fail
              refine (HD1.out _ hr2).mono ?_
              rintro e w2' ⟨rfl, rfl⟩
              go_wp2_with fail
              refine (HN.out _ hr2).mono ?_
              rintro e w3 ⟨rfl, hr3, hg3⟩
              obtain ⟨d0, d1, d2, d3, d4, g1, g3, g4⟩ := rr_cells hr3
              go_wp2_with fail
              refine (HD2.out _ hr3).mono ?_
              rintro e w3' ⟨rfl, rfl⟩
              go_wp2_with fail
              go_quiet (fail)
              go_wp2_with fail
              have hr3n := rr_below hr3 (below_drew1 (pw_below_drewN (Below.refl _ w3') nq))
              refine start_ (n := 22) (S := fun w' => w'.cell? ⟨b, 0, none⟩ = some (.slice A l.length c) ∧ w'.cell? ⟨b, 1, none⟩ = some (.int .i64 (n : Int)) ∧ RrW w' b A c l m n 0 fa2 ∧ w3'.grownBy w' (some b)) (ds := []) #[false, false, false, false, false, false, false, false, false, false, false, false, false, false, false, false, false, false, false, false, false, false] (by kernel_rfl) rfl rfl ⟨(rr_cells hr3n).1, (rr_cells hr3n).2.1, hr3n, grown_of_below (below_drew1 (pw_below_drewN (Below.refl _ w3') nq)) _⟩ (fun hHeld => ?_)
              kp 0 54 #[true, false, false, false, false, false, false, false, false, false, false, false, false, false, false, false, false, false, false, false, false, false]
              kp 1 55 #[true, true, false, false, false, false, false, false, false, false, false, false, false, false, false, false, false, false, false, false, false, false]
              kp 2 56 #[true, true, true, false, false, false, false, false, false, false, false, false, false, false, false, false, false, false, false, false, false, false]
              kp 3 57 #[true, true, true, true, false, false, false, false, false, false, false, false, false, false, false, false, false, false, false, false, false, false]
              kp 4 58 #[true, true, true, true, true, false, false, false, false, false, false, false, false, false, false, false, false, false, false, false, false, false]
              kp 5 59 #[true, true, true, true, true, true, false, false, false, false, false, false, false, false, false, false, false, false, false, false, false, false]
              kp 6 60 #[true, true, true, true, true, true, true, false, false, false, false, false, false, false, false, false, false, false, false, false, false, false]
              kp 7 61 #[true, true, true, true, true, true, true, true, false, false, false, false, false, false, false, false, false, false, false, false, false, false]
              kp 8 62 #[true, true, true, true, true, true, true, true, true, false, false, false, false, false, false, false, false, false, false, false, false, false]
              kp 9 63 #[true, true, true, true, true, true, true, true, true, true, false, false, false, false, false, false, false, false, false, false, false, false]
              kp 10 64 #[true, true, true, true, true, true, true, true, true, true, true, false, false, false, false, false, false, false, false, false, false, false]
              kp 11 65 #[true, true, true, true, true, true, true, true, true, true, true, true, false, false, false, false, false, false, false, false, false, false]
              kp 12 66 #[true, true, true, true, true, true, true, true, true, true, true, true, true, false, false, false, false, false, false, false, false, false]
              kp 13 67 #[true, true, true, true, true, true, true, true, true, true, true, true, true, true, false, false, false, false, false, false, false, false]
              kp 14 68 #[true, true, true, true, true, true, true, true, true, true, true, true, true, true, true, false, false, false, false, false, false, false]
              kp 15 69 #[true, true, true, true, true, true, true, true, true, true, true, true, true, true, true, true, false, false, false, false, false, false]
              refine one_ (i := 16) (N := some 70) #[true, true, true, true, true, true, true, true, true, true, true, true, true, true, true, true, true, false, false, false, false, false] rfl rfl (by kernel_rfl) (by decide) (fun K hK => ?_)
              refine goes_ Tryd.func120 (by kernel_rfl) rfl #[.slice A' (j + 4) (c - n)] (by rfl) rfl rfl (by simp only [List.map_toArray, List.map_cons, List.map_nil]; rfl) ?_
              refine (HO.out _ hHeld.2.2.1).mono ?_
              rintro e w5 ⟨v5, rfl, hB5⟩
              refine ⟨_, rfl, ?_⟩
              have hr5 := rr_below hHeld.2.2.1 hB5
              refine hK.out _ _ ⟨(rr_cells hr5).1, (rr_cells hr5).2.1, hr5, hHeld.2.2.2.trans (grown_of_below hB5 _)⟩ (fun hHeld => ?_)
              clear hK K
              refine norm_ (a' := ?_) ?_ ?_
              rotate_left
              · show Act.put _ (some 70) _ = _
                simp only [Act.put, List.setIfInBounds_toArray, List.set_cons_zero, List.set_cons_succ, i64_w, i32_w]
                rfl
              kp 17 53 #[true, true, true, true, true, true, true, true, true, true, true, true, true, true, true, true, true, true, false, false, false, false]
              kp 18 71 #[true, true, true, true, true, true, true, true, true, true, true, true, true, true, true, true, true, true, true, false, false, false]
              kp 19 72 #[true, true, true, true, true, true, true, true, true, true, true, true, true, true, true, true, true, true, true, true, false, false]
              kp 20 8 #[true, true, true, true, true, true, true, true, true, true, true, true, true, true, true, true, true, true, true, true, true, false]
              kp 21 9 #[true, true, true, true, true, true, true, true, true, true, true, true, true, true, true, true, true, true, true, true, true, true]
              refine done_ (by kernel_rfl) ?_
              clear d0 d1 d2 d3 d4 g1 g3 g4
              obtain ⟨d0, d1, d2, d3, d4, g1, g3, g4⟩ := rr_cells hr5
              go_wp2_with (go_at_call 117; refine (HF.out _ _ _ hr5 _ _).mono ?_; rintro e w6 ⟨rfl, hr6, hg6⟩)
              exact bodyPost_ret (results_tmp rfl _ _ _) rfl ⟨rfl, hr6, ((hg2.trans hg3).trans hHeld.2.2.2).trans hg6⟩
        · rw [if_neg h3]
          have HD2 := Aside0.mk (fun W hr => ref_dead b A c l m n y fa2 W hr h3)
          clear h hf hN hB hj1 hj2 hi1 hi hbs
          go_enter Tryd.func89, Tryd.ntmps89
          go_wp2_with fail
          refine HD0.out.mono ?_
          rintro e w1 ⟨rfl, rfl⟩
          go_wp2_with fail
          refine HB.out.mono ?_
          rintro e w2 ⟨rfl, hr2, hg2⟩
          go_wp2_with fail
          refine (HD1.out _ hr2).mono ?_
          rintro e w2' ⟨rfl, rfl⟩
          go_wp2_with fail
          refine (HN.out _ hr2).mono ?_
          rintro e w3 ⟨rfl, hr3, hg3⟩
          go_wp2_with fail
          refine (HD2.out _ hr3).mono ?_
          rintro e w3' ⟨rfl, rfl⟩
          go_wp2
          exact bodyPost_ret (results_tmp rfl _ _ _) rfl ⟨rfl, hr3, hg2.trans hg3⟩
      · rw [if_neg h2]
        have hz : (z != id) = true := by simp [h2]
        have HF := Aside0.mk (fun i fa W hr => ref_fail b A c l m i fa W hr hf)
        have HA := Aside0.mk hf.far
        clear h hf hN hB hj1 hj2 hi1 hi hbs
        go_enter Tryd.func89, Tryd.ntmps89
        go_wp2_with fail
        refine HD0.out.mono ?_
        rintro e w1 ⟨rfl, rfl⟩
        go_wp2_with fail
        refine HB.out.mono ?_
        rintro e w2 ⟨rfl, hr2, hg2⟩
        obtain ⟨d0, d1, d2, d3, d4, g1, g3, g4⟩ := rr_cells hr2
        go_wp2_with fail
        refine (HD1.out _ hr2).mono ?_
        rintro e w2' ⟨rfl, rfl⟩
        go_wp2_with fail
        refine (HF.out _ _ _ (rr_set1 hr2 HA.out ix) _ _).mono ?_
        rintro e w4 ⟨rfl, hr4, hg4⟩
        go_wp2
        exact bodyPost_ret (results_tmp rfl _ _ _) rfl ⟨rfl, hr4, (hg2.trans (wgrown_setCell _ ⟨b, 1, none⟩ _)).trans hg4⟩
    · rw [if_neg h1]
      have HD1 := Aside0.mk (fun W hr => ref_dead b A c l m ix1 y1 fa1 W hr h1)
      clear h hf hN hB hj1 hj2 hi1 hi hbs
      go_enter Tryd.func89, Tryd.ntmps89
      go_wp2_with fail
      refine HD0.out.mono ?_
      rintro e w1 ⟨rfl, rfl⟩
      go_wp2_with fail
      refine HB.out.mono ?_
      rintro e w2 ⟨rfl, hr2, hg2⟩
      go_wp2_with fail
      refine (HD1.out _ hr2).mono ?_
      rintro e w3 ⟨rfl, rfl⟩
      go_wp2
      exact bodyPost_ret (results_tmp rfl _ _ _) rfl ⟨rfl, hr2, hg2⟩
  · unfold sectS
    rw [if_neg he]
    have HD := Aside0.mk (ref_dead b A c l m s.1 s.2.1 s.2.2 w h he)
    have HR := Aside0.mk h
    clear h hf he
    go_enter Tryd.func89, Tryd.ntmps89
    go_wp2_with (go_at_call 116; refine HD.out.mono ?_; rintro e w1 ⟨rfl, rfl⟩)
    go_ret
    exact ⟨rfl, HR.out, wgrown_drewN _ 0 b⟩
end Go.Proofs.YtmlbfepibfobaaaDoor.Hand
end

section
namespace Go.Proofs.YtmlbfepibfobaaaDoor.Hand
open Go.RowKit Go.Proofs.YtmlbfepibfobaaaDoorW.PrintWords Go.Proofs.YtmlbfepibfobaaaDoorW.PrintLast Go.Proofs.YtmlbfepibfobaaaDoorW.PrintMore
set_option linter.unusedVariables false
set_option linter.unusedSimpArgs false

set_option maxHeartbeats 8000000 in
set_option maxRecDepth 20000 in
theorem wire_Byte_dead (b : Nat) (A : Option Addr) (c : Nat) (l : List Int) (m ix : Nat) (e fa : Int) (w : World) (h : RdW w b A c l m ix e fa) (he : e ≠ 0)  :
    Calls Tryd.prog 84 #[.pointer (some ⟨b, 0, none⟩)] w fun x w' => x = .returned (.int .u8 0) ∧ w' = w := by
  have H1 := Aside0.mk (wire_ready b A c l m ix e fa w h)
  have he' : (e == 0) = false := beq_eq_false_iff_ne.2 he
  clear h he
  go_enter_defers Tryd.func84, Tryd.ntmps84
  go_wp2_with (go_at_call 71; refine H1.out.mono ?_; rintro e w1 ⟨rfl, rfl⟩)
  simp [bodyPostD, Leaves, settle, results, Tryd.results84, go_sem]

set_option maxHeartbeats 8000000 in
set_option maxRecDepth 20000 in
theorem wire_Num_dead (b : Nat) (A : Option Addr) (c : Nat) (l : List Int) (m ix : Nat) (e fa : Int) (w : World) (h : RdW w b A c l m ix e fa) (he : e ≠ 0) (most : Int) :
    Calls Tryd.prog 28 #[.pointer (some ⟨b, 0, none⟩), .int .i64 most] w fun x w' => x = .returned (.int .i64 0) ∧ w' = w := by
  have H1 := Aside0.mk (wire_ready b A c l m ix e fa w h)
  have he' : (e == 0) = false := beq_eq_false_iff_ne.2 he
  clear h he
  go_enter_defers Tryd.func28, Tryd.ntmps28
  go_wp2_with (go_at_call 71; refine H1.out.mono ?_; rintro e w1 ⟨rfl, rfl⟩)
  simp [bodyPostD, Leaves, settle, results, Tryd.results28, go_sem]

set_option maxHeartbeats 8000000 in
set_option maxRecDepth 20000 in
theorem wire_Signed_dead (b : Nat) (A : Option Addr) (c : Nat) (l : List Int) (m ix : Nat) (e fa : Int) (w : World) (h : RdW w b A c l m ix e fa) (he : e ≠ 0)  :
    Calls Tryd.prog 29 #[.pointer (some ⟨b, 0, none⟩)] w fun x w' => x = .returned (.int .i64 0) ∧ w' = w := by
  have H1 := Aside0.mk (wire_ready b A c l m ix e fa w h)
  have he' : (e == 0) = false := beq_eq_false_iff_ne.2 he
  clear h he
  go_enter_defers Tryd.func29, Tryd.ntmps29
  go_wp2_with (go_at_call 71; refine H1.out.mono ?_; rintro e w1 ⟨rfl, rfl⟩)
  simp [bodyPostD, Leaves, settle, results, Tryd.results29, go_sem]

set_option maxHeartbeats 8000000 in
set_option maxRecDepth 20000 in
theorem wire_Text_dead (b : Nat) (A : Option Addr) (c : Nat) (l : List Int) (m ix : Nat) (e fa : Int) (w : World) (h : RdW w b A c l m ix e fa) (he : e ≠ 0)  :
    Calls Tryd.prog 27 #[.pointer (some ⟨b, 0, none⟩)] w fun x w' => x = .returned (.string ⟨#[]⟩) ∧ w' = w := by
  have H1 := Aside0.mk (wire_ready b A c l m ix e fa w h)
  have he' : (e == 0) = false := beq_eq_false_iff_ne.2 he
  clear h he
  go_enter_defers Tryd.func27, Tryd.ntmps27
  go_wp2_with (go_at_call 71; refine H1.out.mono ?_; rintro e w1 ⟨rfl, rfl⟩)
  simp [bodyPostD, Leaves, settle, results, Tryd.results27, go_sem]

set_option maxHeartbeats 8000000 in
set_option maxRecDepth 20000 in
theorem wire_Section_dead (b : Nat) (A : Option Addr) (c : Nat) (l : List Int) (m ix : Nat) (e fa : Int) (w : World) (h : RdW w b A c l m ix e fa) (he : e ≠ 0) (id : Int) :
    Calls Tryd.prog 19 #[.pointer (some ⟨b, 0, none⟩), .int .u8 id] w fun x w' => x = .returned (.pointer none) ∧ w' = w := by
  have H1 := Aside0.mk (wire_ready b A c l m ix e fa w h)
  have he' : (e == 0) = false := beq_eq_false_iff_ne.2 he
  clear h he
  go_enter_defers Tryd.func19, Tryd.ntmps19
  go_wp2_with (go_at_call 71; refine H1.out.mono ?_; rintro e w1 ⟨rfl, rfl⟩)
  simp [bodyPostD, Leaves, settle, results, Tryd.results19, go_sem]

set_option maxHeartbeats 8000000 in
set_option maxRecDepth 20000 in
theorem wire_End_dead (b : Nat) (A : Option Addr) (c : Nat) (l : List Int) (m ix : Nat) (e fa : Int) (w : World) (h : RdW w b A c l m ix e fa) (he : e ≠ 0)  :
    Calls Tryd.prog 30 #[.pointer (some ⟨b, 0, none⟩)] w fun x w' => x = .returned (.bool false) ∧ w' = w := by
  have H1 := Aside0.mk (wire_ready b A c l m ix e fa w h)
  have he' : (e == 0) = false := beq_eq_false_iff_ne.2 he
  clear h he
  go_enter_defers Tryd.func30, Tryd.ntmps30
  go_wp2_with (go_at_call 71; refine H1.out.mono ?_; rintro e w1 ⟨rfl, rfl⟩)
  simp [bodyPostD, Leaves, settle, results, Tryd.results30, go_sem]

theorem wireS_Byte (b : Nat) (A : Option Addr) (c : Nat) (l : List Int) (m : Nat) (s : St) (w : World) (h : RdS w b A c l m s) (hf : RdF b A c l m) (hi : InvS m s)  :
    Calls Tryd.prog 84 #[.pointer (some ⟨b, 0, none⟩)] w fun x w' => x = .returned (.int .u8 (byteS l m s).1) ∧ RdS w' b A c l m ((byteS l m s).2) ∧ w.grownBy w' (some b) := by
  obtain ⟨ix, e, fa⟩ := s
  obtain ⟨hi1, hi2⟩ := hi
  dsimp only at hi1 hi2
  unfold byteS RdS at *
  dsimp only at *
  by_cases he : e = 0
  · subst he
    rw [if_pos rfl]
    by_cases hlt : ix < m
    · rw [if_pos hlt]
      exact wire_Byte_some b A c l m ix fa w h hf hlt
    · rw [if_neg hlt]
      exact wire_Byte_none b A c l m ix fa w h hf (by omega)
  · rw [if_neg he]
    exact (wire_Byte_dead b A c l m ix e fa w h he).mono fun x w' ⟨h1, h2⟩ => ⟨h1, by rw [h2]; exact h, by rw [h2]; exact wgrown_drewN w 0 b⟩

theorem wireS_Num (b : Nat) (A : Option Addr) (c : Nat) (l : List Int) (m : Nat) (s : St) (w : World) (h : RdS w b A c l m s) (hf : RdF b A c l m) (hi : InvS m s) (most : Int) (hmost : most ≤ 9223372036854775807) :
    Calls Tryd.prog 28 #[.pointer (some ⟨b, 0, none⟩), .int .i64 most] w fun x w' => x = .returned (.int .i64 (numS l m most s).1) ∧ RdS w' b A c l m ((numS l m most s).2) ∧ w.grownBy w' (some b) := by
  obtain ⟨ix, e, fa⟩ := s
  obtain ⟨hi1, hi2⟩ := hi
  dsimp only at hi1 hi2
  unfold numS RdS at *
  dsimp only at *
  by_cases he : e = 0
  · subst he
    rw [if_pos rfl]
    rcases take_cases (ix := ix) hf.byt hf.to_ with ⟨v, n, ht, hv, hn0, hn1⟩ | ⟨v, n, y, ht, hy⟩
    · rw [ht]
      dsimp only
      rw [if_pos rfl]
      by_cases hlt : most < 0 ∨ most < (v : Int)
      · rw [if_pos hlt]
        exact wire_Num_long b A c l m ix fa w h hf _ n ht most (by omega) hlt hmost
      · rw [if_neg hlt]
        exact wire_Num_some b A c l m ix fa w h hf _ n ht most (by omega) (by omega) hmost
    · rw [ht]
      dsimp only
      rw [if_neg hy]
      exact wire_Num_bad b A c l m ix fa w h hf v n y ht hy most
  · rw [if_neg he]
    exact (wire_Num_dead b A c l m ix e fa w h he most).mono fun x w' ⟨h1, h2⟩ => ⟨h1, by rw [h2]; exact h, by rw [h2]; exact wgrown_drewN w 0 b⟩

theorem wireS_Signed (b : Nat) (A : Option Addr) (c : Nat) (l : List Int) (m : Nat) (s : St) (w : World) (h : RdS w b A c l m s) (hf : RdF b A c l m) (hi : InvS m s)  :
    Calls Tryd.prog 29 #[.pointer (some ⟨b, 0, none⟩)] w fun x w' => x = .returned (.int .i64 (signS l m s).1) ∧ RdS w' b A c l m ((signS l m s).2) ∧ w.grownBy w' (some b) := by
  obtain ⟨ix, e, fa⟩ := s
  obtain ⟨hi1, hi2⟩ := hi
  dsimp only at hi1 hi2
  unfold signS bigS RdS at *
  dsimp only at *
  by_cases he : e = 0
  · subst he
    rw [if_pos rfl]
    rcases take_cases (ix := ix) hf.byt hf.to_ with ⟨v, n, ht, hv, hn0, hn1⟩ | ⟨v, n, y, ht, hy⟩
    · rw [ht]
      dsimp only
      rw [if_pos rfl]
      exact wire_Signed_some b A c l m ix fa w h hf _ n ht (by omega) (by omega)
    · rw [ht]
      dsimp only
      rw [if_neg hy, if_neg hy]
      exact wire_Signed_bad b A c l m ix fa w h hf v n y ht hy
  · rw [if_neg he, if_neg he]
    exact (wire_Signed_dead b A c l m ix e fa w h he).mono fun x w' ⟨h1, h2⟩ => ⟨h1, by rw [h2]; exact h, by rw [h2]; exact wgrown_drewN w 0 b⟩

theorem wireS_Text (b : Nat) (A : Option Addr) (c : Nat) (l : List Int) (m : Nat) (s : St) (w : World) (h : RdS w b A c l m s) (hf : RdF b A c l m) (hi : InvS m s)  :
    Calls Tryd.prog 27 #[.pointer (some ⟨b, 0, none⟩)] w fun x w' => x = .returned (.string (textS l m s).1) ∧ RdS w' b A c l m ((textS l m s).2) ∧ w.grownBy w' (some b) := by
  obtain ⟨ix, e, fa⟩ := s
  obtain ⟨hi1, hi2⟩ := hi
  dsimp only at hi1 hi2
  unfold textS numS RdS at *
  dsimp only at *
  by_cases he : e = 0
  · subst he
    rw [if_pos rfl]
    rcases take_cases (ix := ix) hf.byt hf.to_ with ⟨v, n, ht, hv, hn0, hn1⟩ | ⟨v, n, y, ht, hy⟩
    · rw [ht]
      dsimp only
      rw [if_pos rfl]
      by_cases hlt : (64 : Int) < 0 ∨ (64 : Int) < (v : Int)
      · rw [if_pos hlt]
        dsimp only
        rw [if_neg (by decide)]
        exact wire_Text_long b A c l m ix fa w h hf _ n ht (by omega) (by omega)
      · rw [if_neg hlt]
        dsimp only
        rw [if_pos rfl]
        simp only [Int.toNat_natCast]
        by_cases hle : n + v ≤ m
        · rw [if_pos hle]
          exact wire_Text_some b A c l m ix fa w h hf _ n ht v rfl (by omega) hle
        · rw [if_neg hle]
          exact wire_Text_short b A c l m ix fa w h hf _ n ht v rfl (by omega) hn1 (by omega)
    · rw [ht]
      dsimp only
      rw [if_neg hy]
      dsimp only
      rw [if_neg hy]
      exact wire_Text_bad b A c l m ix fa w h hf v n y ht hy
  · rw [if_neg he]
    dsimp only
    rw [if_neg he]
    exact (wire_Text_dead b A c l m ix e fa w h he).mono fun x w' ⟨h1, h2⟩ => ⟨h1, by rw [h2]; exact h, by rw [h2]; exact wgrown_drewN w 0 b⟩

theorem wireS_End (b : Nat) (A : Option Addr) (c : Nat) (l : List Int) (m : Nat) (s : St) (w : World) (h : RdS w b A c l m s) (hf : RdF b A c l m) (hi : InvS m s)  :
    Calls Tryd.prog 30 #[.pointer (some ⟨b, 0, none⟩)] w fun x w' => x = .returned (.bool (endS m s).1) ∧ RdS w' b A c l m ((endS m s).2) ∧ w.grownBy w' (some b) := by
  obtain ⟨ix, e, fa⟩ := s
  obtain ⟨hi1, hi2⟩ := hi
  dsimp only at hi1 hi2
  unfold endS RdS at *
  dsimp only at *
  by_cases he : e = 0
  · subst he
    rw [if_pos rfl]
    by_cases hlt : ix = m
    · rw [if_pos hlt]
      exact wire_End_some b A c l m ix fa w h hf hlt
    · rw [if_neg hlt]
      exact wire_End_none b A c l m ix fa w h hf hlt
  · rw [if_neg he]
    exact (wire_End_dead b A c l m ix e fa w h he).mono fun x w' ⟨h1, h2⟩ => ⟨h1, by rw [h2]; exact h, by rw [h2]; exact wgrown_drewN w 0 b⟩

theorem wireS_Fail (b : Nat) (A : Option Addr) (c : Nat) (l : List Int) (m : Nat) (s : St) (w : World) (h : RdS w b A c l m s) (hf : RdF b A c l m) (hi : InvS m s) (y : Int) :
    Calls Tryd.prog 91 #[.pointer (some ⟨b, 0, none⟩), .int .i64 y] w fun x w' => x = .returned (.tuple #[]) ∧ RdS w' b A c l m (failS y s) ∧ w.grownBy w' (some b) := by
  obtain ⟨ix, e, fa⟩ := s
  obtain ⟨hi1, hi2⟩ := hi
  dsimp only at hi1 hi2
  unfold failS RdS at *
  dsimp only at *
  have := wire_Fail b A c l m ix e fa w h hf y
  by_cases he : e = 0
  · rw [if_pos he, if_pos he] at this
    rw [if_pos he]
    exact this
  · rw [if_neg he, if_neg he] at this
    rw [if_neg he]
    exact this

theorem wireS_Section (b : Nat) (A : Option Addr) (c : Nat) (l : List Int) (m : Nat) (s : St) (w : World) (h : RdS w b A c l m s) (hf : RdF b A c l m) (hi : InvS m s) (id : Int) (hG : CrcTab w) :
    Calls Tryd.prog 19 #[.pointer (some ⟨b, 0, none⟩), .int .u8 id] w fun x w' => (match (sectS l m id s).1 with | none => x = .returned (.pointer none) | some p => ∃ B, x = .returned (.pointer (some ⟨B, 0, none⟩)) ∧ w.heap.size ≤ B ∧ RdS w' B A c l p.2 (p.1, 0, 0) ∧ RdF B A c l p.2) ∧ RdS w' b A c l m (sectS l m id s).2 ∧ w.grownBy w' (some b) := by
  obtain ⟨ix, e, fa⟩ := s
  obtain ⟨hi1, hi2⟩ := hi
  dsimp only at hi1 hi2
  unfold sectS RdS at *
  dsimp only at *
  by_cases he : e = 0
  · subst he
    rw [if_pos rfl]
    unfold byteS
    dsimp only
    rw [if_pos rfl]
    by_cases hlt : ix < m
    · rw [if_pos hlt]
      dsimp only
      rw [if_pos rfl]
      by_cases hid : l.getD ix 0 = id
      · rw [if_pos hid]
        unfold numS
        dsimp only
        rw [if_pos rfl]
        rcases take_cases (ix := ix + 1) hf.byt hf.to_ with ⟨v, n, ht, hv, hn0, hn1⟩ | ⟨v, n, y, ht, hy⟩
        · rw [ht]
          dsimp only
          rw [if_pos rfl]
          by_cases h6 : (65536 : Int) < 0 ∨ (65536 : Int) < (v : Int)
          · rw [if_pos h6]
            dsimp only
            rw [if_neg (by decide)]
            exact wire_Section_long b A c l m ix fa w h hf id hlt hid _ n ht (by omega) (by omega)
          · rw [if_neg h6]
            dsimp only
            rw [if_pos rfl]
            simp only [Int.toNat_natCast]
            unfold bodyS
            by_cases hc : m < n + (v + 4)
            · rw [if_pos hc]
              exact wire_Section_cut b A c l m ix fa w h hf id hlt hid _ n ht v rfl (by omega) hn1 hc
            · rw [if_neg hc]
              by_cases ho : (openL (cutN l n (v + 4))).2 = 0
              · rw [if_pos ho]
                exact wire_Section_some b A c l m ix fa w h hf id hG hlt hid _ n ht v rfl (by omega) (by omega) ho
              · rw [if_neg ho]
                exact wire_Section_sum b A c l m ix fa w h hf id hG hlt hid _ n ht v rfl (by omega) (by omega) ho
        · rw [ht]
          dsimp only
          rw [if_neg hy]
          dsimp only
          rw [if_neg hy]
          exact wire_Section_bad b A c l m ix fa w h hf id hlt hid v n y ht hy
      · rw [if_neg hid]
        exact wire_Section_form b A c l m ix fa w h hf id hlt hid
    · rw [if_neg hlt]
      dsimp only
      rw [if_neg (by decide)]
      exact wire_Section_short b A c l m ix fa w h hf id (by omega)
  · rw [if_neg he]
    exact (wire_Section_dead b A c l m ix e fa w h he id).mono fun x w' ⟨h1, h2⟩ => ⟨h1, by rw [h2]; exact h, by rw [h2]; exact wgrown_drewN w 0 b⟩

end Go.Proofs.YtmlbfepibfobaaaDoor.Hand
end

section
-- Written by this session's program layer.py (the kit's print, turned), not by hand.
namespace Go.Proofs.YtmlbfepibfobaaaDoor.Q30
open Go.RowKit Go.Proofs.YtmlbfepibfobaaaDoorW.PrintWords Go.Proofs.YtmlbfepibfobaaaDoorW.PrintLast Go.Proofs.YtmlbfepibfobaaaDoorW.PrintMore Go.Proofs.YtmlbfepibfobaaaDoor.Hand
attribute [local go_sem] max2_int min2_int max_two min_two max_three min_three max_four min_four   -- for this text's walks alone
set_option linter.unusedVariables false
set_option linter.unusedSimpArgs false



def errW : Option Int → Value
  | none => .nilIface
  | some c => .iface 0 (.int .i64 c)
theorem errW_none : errW none = .nilIface := rfl
theorem errW_some (c : Int) : errW (some c) = .iface 0 (.int .i64 c) := rfl

theorem info5 : (Tryd.prog.info? 5).map (fun i => (i.zero, i.size, i.bytes)) = some (some (.int .u8 0), 1, 1) := by kernel_rfl
-- the values' own types

end Go.Proofs.YtmlbfepibfobaaaDoor.Q30
end

section
-- Written by this session's program layer.py (the kit's print, turned), not by hand.
namespace Go.Proofs.YtmlbfepibfobaaaDoor.Q30
open Go.RowKit Go.Proofs.YtmlbfepibfobaaaDoorW.PrintWords Go.Proofs.YtmlbfepibfobaaaDoorW.PrintLast Go.Proofs.YtmlbfepibfobaaaDoorW.PrintMore Go.Proofs.YtmlbfepibfobaaaDoor.Hand
attribute [local go_sem] max2_int min2_int max_two min_two max_three min_three max_four min_four   -- for this text's walks alone
set_option linter.unusedVariables false
set_option linter.unusedSimpArgs false

-- BY HAND: function 68 (leb_Put)

/-! ### wire_Text: function 22 -/
def wire_Text.f (a0 : ByteArray) : Option (List Int) := (leb_Put.f (IntKind.u64.wrap ((a0.size : Int)))).bind fun t101 => (if t101.length + a0.size < 140737488355328 then (some (t101 ++ bytesOf a0)) else (none))
set_option maxHeartbeats 8000000 in
set_option maxRecDepth 100000 in
theorem wire_Text.calls (a0 : ByteArray) (r : List Int) (w : World) (h : wire_Text.f a0 = some r) :
    Calls Tryd.prog 22 #[.string a0] w fun e w' => ∃ v0_ : Value, e = .returned (v0_) ∧ Kd.R (Kd.int .u8) 5 w' w.heap.size (fun _ => True) v0_ r ∧ Below w.heap.size w w' := by
  have HB := Aside0.mk (Below.refl w.heap.size w)
  have H : ((leb_Put.f (IntKind.u64.wrap ((a0.size : Int)))).bind fun t101 => (if t101.length + a0.size < 140737488355328 then (some (t101 ++ bytesOf a0)) else (none))) = some r := h
  clear h
  replace H := Option.bind_eq_some_iff.mp H
  obtain ⟨t101, A20, H⟩ := H
  replace H : (if t101.length + a0.size < 140737488355328 then (some (t101 ++ bytesOf a0)) else (none)) = some r := H
  have A2 := Aside0.mk A20
  clear A20
  by_cases c3 : t101.length + a0.size < 140737488355328
  · rw [if_pos c3] at H
    have LMc3 := Aside0.mk c3
    clear c3
    obtain ⟨y104, hy104⟩ : ∃ y_ : List Int, y_ = (t101 ++ bytesOf a0) := ⟨_, rfl⟩
    replace H : (some y104) = some r := by first | (rw [hy104]; with_reducible exact H) | (have H2_ := (Option.bind_some _ _).symm.trans H; rw [hy104]; with_reducible exact H2_) | (have H2_ := (Option.bind_some _ _).symm.trans H; with_reducible exact H2_) | with_reducible exact H | (rw [hy104]; exact H) | exact H
    have Ny104 := Aside0.mk hy104
    clear hy104
    obtain rfl := Option.some.inj H
    go_enter Tryd.func22, Tryd.ntmps22
    go_wp2_with (first | ((with_reducible refine gate_callee (f := 68) rfl ?_); refine goesL_ (some 6) rfl rfl Tryd.func68 (by kernel_rfl) rfl #[.int .u64 (IntKind.u64.wrap ((a0.size : Int)))] rfl (by (try simp only [List.map_toArray, List.map_cons, List.map_nil]); first | done | rfl | (simp only [List.length_drop, List.length_take]; rfl)) ?_; (with_reducible refine (leb_Put.calls (IntKind.u64.wrap ((a0.size : Int))) t101 _ A2.out).mono ?_); rintro e w4 ⟨v102, rfl, ho0, hb⟩; refine ⟨_, rfl, ?_⟩; have n0_ := Aside0.mk (Kd.R_lower ho0 (below_size (by repeat (first | (with_reducible first | exact HB.out | apply below_alloc | apply pw_below_drewN | apply below_drew1) | exact HB.out)))); have n1_ := Aside0.mk (below_step (by repeat (first | (with_reducible first | exact HB.out | apply below_alloc | apply pw_below_drewN | apply below_drew1) | exact HB.out)) hb); clear HB; have HO103 := n0_; have HB := n1_; clear n0_ n1_; (try clear hb); (try clear hb2); (try clear hk); (try clear hi); (try clear ho0)) | (at_builtin; refine print_append_str (w0 := w) w.heap.size rfl (.tmp 6) _ 22 9 5 rfl Tryd.underlying22 Tryd.underlying9 info5 v102 t101 a0 rfl rfl ?aO ?aB ?aS ?aL ?_; (case aB => exact (by repeat (first | (with_reducible first | exact HB.out | apply below_alloc | apply pw_below_drewN | apply below_drew1) | exact HB.out))); (case aO => exact (Kd.own_of_R (by (with_reducible repeat (first | apply Kd.R_alloc | apply Kd.R_drewN | apply Kd.R_drew)); exact HO103.out))); (case aS => exact (below_size (by repeat (first | (with_reducible first | exact HB.out | apply below_alloc | apply pw_below_drewN | apply below_drew1) | exact HB.out)))); (case aL => have := LMc3.out; omega); intro v105 w5 ho0 hb hg; have ho := Kd.R_of_own (h1 := fun _ => rfl) (ok := fun _ => True) ho0 (fun _ _ => trivial); clear ho0; have hat := True.intro; rw [← Ny104.out] at ho; change Kd.R (Kd.int .u8) 5 w5 w.heap.size (fun _ => True) v105 y104 at ho; have n0_ := Aside0.mk (hb); have n1_ := Aside0.mk (ho); clear HB; clear HO103; have HB := n0_; have HO106 := n1_; clear n0_ n1_; clear ho hb hg hat))
    go_ret
    exact ⟨_, by first | rfl | (simp [errW_none, errW_some] <;> rfl) | (simp [*, errW_none, errW_some] <;> rfl), by (with_reducible repeat (first | apply Kd.R_alloc | apply Kd.R_drewN | apply Kd.R_drew)); exact HO106.out, by repeat (first | (with_reducible first | exact HB.out | apply below_alloc | apply pw_below_drewN | apply below_drew1) | exact HB.out)⟩
  · rw [if_neg c3] at H
    exact absurd H (by simp)

-- BY HAND: function 69 (crc_Seal)

/-! ### wire_Section: function 17 -/
def wire_Section.f (a0 : Int) (l1 : List Int) : Option (List Int) := (some (([a0] : List Int) : List Int)).bind fun y107 => ((leb_Put.f (IntKind.u64.wrap ((l1.length : Int)))).bind fun t110 => (if y107.length + t110.length < 140737488355328 then ((some (y107 ++ t110 : List Int)).bind fun y113 => ((crc_Seal.f l1).bind fun t116 => (if y113.length + t116.length < 140737488355328 then (some (y113 ++ t116)) else (none)))) else (none)))
set_option maxHeartbeats 8000000 in
set_option maxRecDepth 100000 in
theorem wire_Section.calls (a0 : Int) (A1 : Option Addr) (c1 : Nat) (l1 : List Int) (r : List Int) (w : World) (hr1 : Kd.C (Kd.int .u8) w A1 l1.length l1) (hc1 : l1.length ≤ c1) (hGCrcTab : CrcTab w) (h : wire_Section.f a0 l1 = some r) :
    Calls Tryd.prog 17 #[.int .u8 a0, .slice A1 l1.length c1] w fun e w' => ∃ v0_ : Value, e = .returned (v0_) ∧ Kd.R (Kd.int .u8) 5 w' w.heap.size (fun _ => True) v0_ r ∧ Below w.heap.size w w' := by
  have HGCrcTab := Aside0.mk hGCrcTab
  clear hGCrcTab
  have HR1 := Aside0.mk hr1
  have HC1 := Aside0.mk hc1
  clear hr1 hc1
  have HB := Aside0.mk (Below.refl w.heap.size w)
  have H : ((some (([a0] : List Int) : List Int)).bind fun y107 => ((leb_Put.f (IntKind.u64.wrap ((l1.length : Int)))).bind fun t110 => (if y107.length + t110.length < 140737488355328 then ((some (y107 ++ t110 : List Int)).bind fun y113 => ((crc_Seal.f l1).bind fun t116 => (if y113.length + t116.length < 140737488355328 then (some (y113 ++ t116)) else (none)))) else (none)))) = some r := h
  clear h
  obtain ⟨y107, hy107⟩ : ∃ y_ : List Int, y_ = (([a0] : List Int)) := ⟨_, rfl⟩
  replace H : ((leb_Put.f (IntKind.u64.wrap ((l1.length : Int)))).bind fun t110 => (if y107.length + t110.length < 140737488355328 then ((some (y107 ++ t110 : List Int)).bind fun y113 => ((crc_Seal.f l1).bind fun t116 => (if y113.length + t116.length < 140737488355328 then (some (y113 ++ t116)) else (none)))) else (none))) = some r := by first | (rw [hy107]; with_reducible exact H) | (have H2_ := (Option.bind_some _ _).symm.trans H; rw [hy107]; with_reducible exact H2_) | (have H2_ := (Option.bind_some _ _).symm.trans H; with_reducible exact H2_) | with_reducible exact H | (rw [hy107]; exact H) | exact H
  have Ny107 := Aside0.mk hy107
  clear hy107
  replace H := Option.bind_eq_some_iff.mp H
  obtain ⟨t110, A30, H⟩ := H
  replace H : (if y107.length + t110.length < 140737488355328 then ((some (y107 ++ t110 : List Int)).bind fun y113 => ((crc_Seal.f l1).bind fun t116 => (if y113.length + t116.length < 140737488355328 then (some (y113 ++ t116)) else (none)))) else (none)) = some r := H
  have A3 := Aside0.mk A30
  clear A30
  by_cases c4 : y107.length + t110.length < 140737488355328
  · rw [if_pos c4] at H
    have LMc4 := Aside0.mk c4
    clear c4
    obtain ⟨y113, hy113⟩ : ∃ y_ : List Int, y_ = (y107 ++ t110) := ⟨_, rfl⟩
    replace H : ((crc_Seal.f l1).bind fun t116 => (if y113.length + t116.length < 140737488355328 then (some (y113 ++ t116)) else (none))) = some r := by first | (rw [hy113]; with_reducible exact H) | (have H2_ := (Option.bind_some _ _).symm.trans H; rw [hy113]; with_reducible exact H2_) | (have H2_ := (Option.bind_some _ _).symm.trans H; with_reducible exact H2_) | with_reducible exact H | (rw [hy113]; exact H) | exact H
    have Ny113 := Aside0.mk hy113
    clear hy113
    replace H := Option.bind_eq_some_iff.mp H
    obtain ⟨t116, A50, H⟩ := H
    replace H : (if y113.length + t116.length < 140737488355328 then (some (y113 ++ t116)) else (none)) = some r := H
    have A5 := Aside0.mk A50
    clear A50
    by_cases c6 : y113.length + t116.length < 140737488355328
    · rw [if_pos c6] at H
      have LMc6 := Aside0.mk c6
      clear c6
      obtain ⟨y119, hy119⟩ : ∃ y_ : List Int, y_ = (y113 ++ t116) := ⟨_, rfl⟩
      replace H : (some y119) = some r := by first | (rw [hy119]; with_reducible exact H) | (have H2_ := (Option.bind_some _ _).symm.trans H; rw [hy119]; with_reducible exact H2_) | (have H2_ := (Option.bind_some _ _).symm.trans H; with_reducible exact H2_) | with_reducible exact H | (rw [hy119]; exact H) | exact H
      have Ny119 := Aside0.mk hy119
      clear hy119
      obtain rfl := Option.some.inj H
      go_enter Tryd.func17, Tryd.ntmps17
      go_wp2_with (first | ((with_reducible refine gate_dst (N := 7) rfl ?_); refine Kd.R_lit (Kd.int .u8) _ 5 ?hg (N := 7) ?hd (xs := ([a0] : List Int)) (inner := [.int .u8 a0]) (ok := fun _ => True) (okp := fun _ => True) ?hr ?hp (fun _ hk => hk) trivial (Below.refl _ _) (Nat.le_refl _) (by simp) ?_; (case hd => rfl); (case hg => rfl); (case hr => first | (go_simp; done) | (go_simp; rfl)); (case hp => exact (Reps.one (show Kd.M (Kd.int .u8) _ _ _ a0 [.int .u8 a0] from rfl) (Reps.none _ _))); intro v108 w7 ho8 hb hg_ hnew_; clear hg_ hnew_; (first | rw [← Ny107.out] at ho8 | (simp only [Int.reduceToNat] at ho8; rw [← Ny107.out] at ho8)); have n0_ := Aside0.mk (Kd.R_lower ho8 (below_size (by repeat (first | (with_reducible first | exact HB.out | apply below_alloc | apply pw_below_drewN | apply below_drew1) | exact HB.out)))); have n1_ := Aside0.mk (below_step (by repeat (first | (with_reducible first | exact HB.out | apply below_alloc | apply pw_below_drewN | apply below_drew1) | exact HB.out)) hb); clear HB; have HO109 := n0_; have HB := n1_; clear n0_ n1_; clear hb ho8) | ((with_reducible refine gate_callee (f := 68) rfl ?_); refine goesL_ (some 11) rfl rfl Tryd.func68 (by kernel_rfl) rfl #[.int .u64 (IntKind.u64.wrap ((l1.length : Int)))] rfl (by (try simp only [List.map_toArray, List.map_cons, List.map_nil]); first | done | rfl | (simp only [List.length_drop, List.length_take]; rfl)) ?_; (with_reducible refine (leb_Put.calls (IntKind.u64.wrap ((l1.length : Int))) t110 _ A3.out).mono ?_); rintro e w9 ⟨v111, rfl, ho0, hb⟩; refine ⟨_, rfl, ?_⟩; have n0_ := Aside0.mk (Kd.R_elder' (by (with_reducible repeat (first | apply Kd.R_alloc | apply Kd.R_drewN | apply Kd.R_drew)); exact HO109.out) (Kd.R_base ho0) hb); have n1_ := Aside0.mk (Kd.R_lower (Kd.R_new' ho0 (Kd.R_lt (by (with_reducible repeat (first | apply Kd.R_alloc | apply Kd.R_drewN | apply Kd.R_drew)); exact HO109.out))) (below_size (by repeat (first | (with_reducible first | exact HB.out | apply below_alloc | apply pw_below_drewN | apply below_drew1) | exact HB.out)))); have n2_ := Aside0.mk (below_step (by repeat (first | (with_reducible first | exact HB.out | apply below_alloc | apply pw_below_drewN | apply below_drew1) | exact HB.out)) hb); clear HO109; clear HB; have HO109 := n0_; have HO112 := n1_; have HB := n2_; clear n0_ n1_ n2_; (try clear hb); (try clear hb2); (try clear hk); (try clear hi); (try clear ho0); obtain ⟨Ao11, co11, eo11⟩ := Kd.R_slice HO112.out; subst eo11) | ((with_reducible refine gate_builtin (b := .append) (xs := #[.tmp 7, .tmp 11]) rfl ?_); at_builtin; refine Kd.R_append_rows (Kd.int .u8) (w0 := w) w.heap.size rfl (.tmp 7) (.tmp 11) 22 5 (.int .u8 0) 1 rfl Tryd.underlying22 info5 rfl (by decide) (by omega) v108 y107 t110 _ _ _ (fun k_ => some k_ ≠ (.slice Ao11 t110.length co11 : Value).ownBlock) (fun _ => False) rfl rfl ?aO ?aR (fun _ _ h => h) (fun _ h => h.elim) ?aF ?aB ?aS ?aL ?_; (case aR => repeat (first | exact (Kd.R_reads' HO112.out).2.2 | (with_reducible refine Kd.C_alloc ?_ _) | (with_reducible refine Kd.C_drewN ?_ _) | (with_reducible refine Kd.C_drew ?_))); (case aB => exact (by repeat (first | (with_reducible first | exact HB.out | apply below_alloc | apply pw_below_drewN | apply below_drew1) | exact HB.out))); (case aF => exact (fun k_ hk => Kd.fresh' (Kd.R_lt (by (with_reducible repeat (first | apply Kd.R_alloc | apply Kd.R_drewN | apply Kd.R_drew)); exact HO112.out)) k_ hk)); (case aO => exact (by (with_reducible repeat (first | apply Kd.R_alloc | apply Kd.R_drewN | apply Kd.R_drew)); exact Kd.R_mono HO109.out (fun _ hk => hk.2))); (case aS => exact (below_size (by repeat (first | (with_reducible first | exact HB.out | apply below_alloc | apply pw_below_drewN | apply below_drew1) | exact HB.out)))); (case aL => have := LMc4.out; omega); intro v114 w10 ho hb hg hat; rw [← Ny113.out] at ho; have n0_ := Aside0.mk (Kd.R_after (ok := (fun _ => True)) (by (with_reducible repeat (first | apply Kd.R_alloc | apply Kd.R_drewN | apply Kd.R_drew)); exact HO112.out) hg hat); have n1_ := Aside0.mk (hb); have n2_ := Aside0.mk (ho); clear HO112; clear HB; clear HO109; have HO112 := n0_; have HB := n1_; have HO115 := n2_; clear n0_ n1_ n2_; clear ho hb hg hat) | ((with_reducible refine gate_callee (f := 69) rfl ?_); refine goesL_ (some 15) rfl rfl Tryd.func69 (by kernel_rfl) rfl #[.slice A1 l1.length c1] rfl (by (try simp only [List.map_toArray, List.map_cons, List.map_nil]); first | done | rfl | (simp only [List.length_drop, List.length_take]; rfl)) ?_; (with_reducible refine (crc_Seal.calls _ _ l1 t116 _ ?side1 ?side2 ?side3 A5.out).mono ?_); (case side1 => repeat (first | exact (Kd.C_below HR1.out HB.out) | (with_reducible refine Kd.C_alloc ?_ _) | (with_reducible refine Kd.C_drewN ?_ _) | (with_reducible refine Kd.C_drew ?_))); (case side2 => exact HC1.out); (case side3 => exact CrcTab.below HGCrcTab.out (by repeat (first | (with_reducible first | exact HB.out | apply below_alloc | apply pw_below_drewN | apply below_drew1) | exact HB.out))); rintro e w12 ⟨v117, rfl, ho0, hb⟩; refine ⟨_, rfl, ?_⟩; have n0_ := Aside0.mk (Kd.R_elder' (by (with_reducible repeat (first | apply Kd.R_alloc | apply Kd.R_drewN | apply Kd.R_drew)); exact HO112.out) (Kd.R_base ho0) hb); have n1_ := Aside0.mk (Kd.R_elder' (by (with_reducible repeat (first | apply Kd.R_alloc | apply Kd.R_drewN | apply Kd.R_drew)); exact HO115.out) (Kd.R_base ho0) hb); have n2_ := Aside0.mk (Kd.R_lower (Kd.R_new' (Kd.R_new' ho0 (Kd.R_lt (by (with_reducible repeat (first | apply Kd.R_alloc | apply Kd.R_drewN | apply Kd.R_drew)); exact HO112.out))) (Kd.R_lt (by (with_reducible repeat (first | apply Kd.R_alloc | apply Kd.R_drewN | apply Kd.R_drew)); exact HO115.out))) (below_size (by repeat (first | (with_reducible first | exact HB.out | apply below_alloc | apply pw_below_drewN | apply below_drew1) | exact HB.out)))); have n3_ := Aside0.mk (below_step (by repeat (first | (with_reducible first | exact HB.out | apply below_alloc | apply pw_below_drewN | apply below_drew1) | exact HB.out)) hb); clear HO112; clear HO115; clear HB; have HO112 := n0_; have HO115 := n1_; have HO118 := n2_; have HB := n3_; clear n0_ n1_ n2_ n3_; (try clear hb); (try clear hb2); (try clear hk); (try clear hi); (try clear ho0); obtain ⟨Ao14, co14, eo14⟩ := Kd.R_slice HO118.out; subst eo14) | ((with_reducible refine gate_builtin (b := .append) (xs := #[.tmp 13, .tmp 15]) rfl ?_); at_builtin; refine Kd.R_append_rows (Kd.int .u8) (w0 := w) w.heap.size rfl (.tmp 13) (.tmp 15) 22 5 (.int .u8 0) 1 rfl Tryd.underlying22 info5 rfl (by decide) (by omega) v114 y113 t116 _ _ _ (fun k_ => some k_ ≠ (.slice Ao11 t110.length co11 : Value).ownBlock ∧ some k_ ≠ (.slice Ao14 t116.length co14 : Value).ownBlock) (fun _ => False) rfl rfl ?aO ?aR (fun _ _ h => h) (fun _ h => h.elim) ?aF ?aB ?aS ?aL ?_; (case aR => repeat (first | exact (Kd.R_reads' HO118.out).2.2 | (with_reducible refine Kd.C_alloc ?_ _) | (with_reducible refine Kd.C_drewN ?_ _) | (with_reducible refine Kd.C_drew ?_))); (case aB => exact (by repeat (first | (with_reducible first | exact HB.out | apply below_alloc | apply pw_below_drewN | apply below_drew1) | exact HB.out))); (case aF => exact (fun k_ hk => ⟨Kd.fresh' (Kd.R_lt (by (with_reducible repeat (first | apply Kd.R_alloc | apply Kd.R_drewN | apply Kd.R_drew)); exact HO112.out)) k_ hk, Kd.fresh' (Kd.R_lt (by (with_reducible repeat (first | apply Kd.R_alloc | apply Kd.R_drewN | apply Kd.R_drew)); exact HO118.out)) k_ hk⟩)); (case aO => exact (by (with_reducible repeat (first | apply Kd.R_alloc | apply Kd.R_drewN | apply Kd.R_drew)); exact HO115.out)); (case aS => exact (below_size (by repeat (first | (with_reducible first | exact HB.out | apply below_alloc | apply pw_below_drewN | apply below_drew1) | exact HB.out)))); (case aL => have := LMc6.out; omega); intro v120 w13 ho hb hg hat; rw [← Ny119.out] at ho; have n0_ := Aside0.mk (Kd.R_after (ok := (fun k_ => some k_ ≠ (.slice Ao14 t116.length co14 : Value).ownBlock)) (by (with_reducible repeat (first | apply Kd.R_alloc | apply Kd.R_drewN | apply Kd.R_drew)); exact Kd.R_mono HO112.out (fun _ hk => ⟨hk.2, hk.1.2⟩)) hg hat); have n1_ := Aside0.mk (Kd.R_after (ok := (fun k_ => some k_ ≠ (.slice Ao11 t110.length co11 : Value).ownBlock)) (by (with_reducible repeat (first | apply Kd.R_alloc | apply Kd.R_drewN | apply Kd.R_drew)); exact Kd.R_mono HO118.out (fun _ hk => ⟨hk.1.2, hk.2⟩)) hg hat); have n2_ := Aside0.mk (hb); have n3_ := Aside0.mk (ho); clear HO112; clear HO118; clear HB; clear HO115; have HO112 := n0_; have HO118 := n1_; have HB := n2_; have HO121 := n3_; clear n0_ n1_ n2_ n3_; clear ho hb hg hat))
      go_ret
      exact ⟨_, by first | rfl | (simp [errW_none, errW_some] <;> rfl) | (simp [*, errW_none, errW_some] <;> rfl), by (with_reducible repeat (first | apply Kd.R_alloc | apply Kd.R_drewN | apply Kd.R_drew)); exact Kd.R_mono HO121.out (fun _ hk => trivial), by repeat (first | (with_reducible first | exact HB.out | apply below_alloc | apply pw_below_drewN | apply below_drew1) | exact HB.out)⟩
    · rw [if_neg c6] at H
      exact absurd H (by simp)
  · rw [if_neg c4] at H
    exact absurd H (by simp)

-- BY HAND: function 25 (secateurref01_Put)

/-! ### secateurref03_Text: function 23 -/
def secateurref03_Text.f (a0 : ByteArray) : Option (List Int) := (secateurref01_Put.f (IntKind.u64.wrap ((a0.size : Int)))).bind fun t122 => (if t122.length + a0.size < 140737488355328 then (some (t122 ++ bytesOf a0)) else (none))
set_option maxHeartbeats 8000000 in
set_option maxRecDepth 100000 in
theorem secateurref03_Text.calls (a0 : ByteArray) (r : List Int) (w : World) (h : secateurref03_Text.f a0 = some r) :
    Calls Tryd.prog 23 #[.string a0] w fun e w' => ∃ v0_ : Value, e = .returned (v0_) ∧ Kd.R (Kd.int .u8) 5 w' w.heap.size (fun _ => True) v0_ r ∧ Below w.heap.size w w' := by
  have HB := Aside0.mk (Below.refl w.heap.size w)
  have H : ((secateurref01_Put.f (IntKind.u64.wrap ((a0.size : Int)))).bind fun t122 => (if t122.length + a0.size < 140737488355328 then (some (t122 ++ bytesOf a0)) else (none))) = some r := h
  clear h
  replace H := Option.bind_eq_some_iff.mp H
  obtain ⟨t122, A20, H⟩ := H
  replace H : (if t122.length + a0.size < 140737488355328 then (some (t122 ++ bytesOf a0)) else (none)) = some r := H
  have A2 := Aside0.mk A20
  clear A20
  by_cases c3 : t122.length + a0.size < 140737488355328
  · rw [if_pos c3] at H
    have LMc3 := Aside0.mk c3
    clear c3
    obtain ⟨y125, hy125⟩ : ∃ y_ : List Int, y_ = (t122 ++ bytesOf a0) := ⟨_, rfl⟩
    replace H : (some y125) = some r := by first | (rw [hy125]; with_reducible exact H) | (have H2_ := (Option.bind_some _ _).symm.trans H; rw [hy125]; with_reducible exact H2_) | (have H2_ := (Option.bind_some _ _).symm.trans H; with_reducible exact H2_) | with_reducible exact H | (rw [hy125]; exact H) | exact H
    have Ny125 := Aside0.mk hy125
    clear hy125
    obtain rfl := Option.some.inj H
    go_enter Tryd.func23, Tryd.ntmps23
    go_wp2_with (first | ((with_reducible refine gate_callee (f := 25) rfl ?_); refine goesL_ (some 7) rfl rfl Tryd.func25 (by kernel_rfl) rfl #[.int .u64 (IntKind.u64.wrap ((a0.size : Int)))] rfl (by (try simp only [List.map_toArray, List.map_cons, List.map_nil]); first | done | rfl | (simp only [List.length_drop, List.length_take]; rfl)) ?_; (with_reducible refine (secateurref01_Put.calls (IntKind.u64.wrap ((a0.size : Int))) t122 _ A2.out).mono ?_); rintro e w4 ⟨v123, rfl, ho0, hb⟩; refine ⟨_, rfl, ?_⟩; have n0_ := Aside0.mk (Kd.R_lower ho0 (below_size (by repeat (first | (with_reducible first | exact HB.out | apply below_alloc | apply pw_below_drewN | apply below_drew1) | exact HB.out)))); have n1_ := Aside0.mk (below_step (by repeat (first | (with_reducible first | exact HB.out | apply below_alloc | apply pw_below_drewN | apply below_drew1) | exact HB.out)) hb); clear HB; have HO124 := n0_; have HB := n1_; clear n0_ n1_; (try clear hb); (try clear hb2); (try clear hk); (try clear hi); (try clear ho0)) | (at_builtin; refine print_append_str (w0 := w) w.heap.size rfl (.tmp 8) _ 22 9 5 rfl Tryd.underlying22 Tryd.underlying9 info5 v123 t122 a0 rfl rfl ?aO ?aB ?aS ?aL ?_; (case aB => exact (by repeat (first | (with_reducible first | exact HB.out | apply below_alloc | apply pw_below_drewN | apply below_drew1) | exact HB.out))); (case aO => exact (Kd.own_of_R (by (with_reducible repeat (first | apply Kd.R_alloc | apply Kd.R_drewN | apply Kd.R_drew)); exact HO124.out))); (case aS => exact (below_size (by repeat (first | (with_reducible first | exact HB.out | apply below_alloc | apply pw_below_drewN | apply below_drew1) | exact HB.out)))); (case aL => have := LMc3.out; omega); intro v126 w5 ho0 hb hg; have ho := Kd.R_of_own (h1 := fun _ => rfl) (ok := fun _ => True) ho0 (fun _ _ => trivial); clear ho0; have hat := True.intro; rw [← Ny125.out] at ho; change Kd.R (Kd.int .u8) 5 w5 w.heap.size (fun _ => True) v126 y125 at ho; have n0_ := Aside0.mk (hb); have n1_ := Aside0.mk (ho); clear HB; clear HO124; have HB := n0_; have HO127 := n1_; clear n0_ n1_; clear ho hb hg hat))
    go_ret
    exact ⟨_, by first | rfl | (simp [errW_none, errW_some] <;> rfl) | (simp [*, errW_none, errW_some] <;> rfl), by (with_reducible repeat (first | apply Kd.R_alloc | apply Kd.R_drewN | apply Kd.R_drew)); exact HO127.out, by repeat (first | (with_reducible first | exact HB.out | apply below_alloc | apply pw_below_drewN | apply below_drew1) | exact HB.out)⟩
  · rw [if_neg c3] at H
    exact absurd H (by simp)

-- BY HAND: function 78 (secateurref02_Seal)

/-! ### secateurref03_Section: function 24 -/
def secateurref03_Section.f (a0 : Int) (l1 : List Int) : Option (List Int) := (some (([a0] : List Int) : List Int)).bind fun y128 => ((secateurref01_Put.f (IntKind.u64.wrap ((l1.length : Int)))).bind fun t131 => (if y128.length + t131.length < 140737488355328 then ((some (y128 ++ t131 : List Int)).bind fun y134 => ((secateurref02_Seal.f l1).bind fun t137 => (if y134.length + t137.length < 140737488355328 then (some (y134 ++ t137)) else (none)))) else (none)))
set_option maxHeartbeats 8000000 in
set_option maxRecDepth 100000 in
theorem secateurref03_Section.calls (a0 : Int) (A1 : Option Addr) (c1 : Nat) (l1 : List Int) (r : List Int) (w : World) (hr1 : Kd.C (Kd.int .u8) w A1 l1.length l1) (hc1 : l1.length ≤ c1) (h : secateurref03_Section.f a0 l1 = some r) :
    Calls Tryd.prog 24 #[.int .u8 a0, .slice A1 l1.length c1] w fun e w' => ∃ v0_ : Value, e = .returned (v0_) ∧ Kd.R (Kd.int .u8) 5 w' w.heap.size (fun _ => True) v0_ r ∧ Below w.heap.size w w' := by
  have HR1 := Aside0.mk hr1
  have HC1 := Aside0.mk hc1
  clear hr1 hc1
  have HB := Aside0.mk (Below.refl w.heap.size w)
  have H : ((some (([a0] : List Int) : List Int)).bind fun y128 => ((secateurref01_Put.f (IntKind.u64.wrap ((l1.length : Int)))).bind fun t131 => (if y128.length + t131.length < 140737488355328 then ((some (y128 ++ t131 : List Int)).bind fun y134 => ((secateurref02_Seal.f l1).bind fun t137 => (if y134.length + t137.length < 140737488355328 then (some (y134 ++ t137)) else (none)))) else (none)))) = some r := h
  clear h
  obtain ⟨y128, hy128⟩ : ∃ y_ : List Int, y_ = (([a0] : List Int)) := ⟨_, rfl⟩
  replace H : ((secateurref01_Put.f (IntKind.u64.wrap ((l1.length : Int)))).bind fun t131 => (if y128.length + t131.length < 140737488355328 then ((some (y128 ++ t131 : List Int)).bind fun y134 => ((secateurref02_Seal.f l1).bind fun t137 => (if y134.length + t137.length < 140737488355328 then (some (y134 ++ t137)) else (none)))) else (none))) = some r := by first | (rw [hy128]; with_reducible exact H) | (have H2_ := (Option.bind_some _ _).symm.trans H; rw [hy128]; with_reducible exact H2_) | (have H2_ := (Option.bind_some _ _).symm.trans H; with_reducible exact H2_) | with_reducible exact H | (rw [hy128]; exact H) | exact H
  have Ny128 := Aside0.mk hy128
  clear hy128
  replace H := Option.bind_eq_some_iff.mp H
  obtain ⟨t131, A30, H⟩ := H
  replace H : (if y128.length + t131.length < 140737488355328 then ((some (y128 ++ t131 : List Int)).bind fun y134 => ((secateurref02_Seal.f l1).bind fun t137 => (if y134.length + t137.length < 140737488355328 then (some (y134 ++ t137)) else (none)))) else (none)) = some r := H
  have A3 := Aside0.mk A30
  clear A30
  by_cases c4 : y128.length + t131.length < 140737488355328
  · rw [if_pos c4] at H
    have LMc4 := Aside0.mk c4
    clear c4
    obtain ⟨y134, hy134⟩ : ∃ y_ : List Int, y_ = (y128 ++ t131) := ⟨_, rfl⟩
    replace H : ((secateurref02_Seal.f l1).bind fun t137 => (if y134.length + t137.length < 140737488355328 then (some (y134 ++ t137)) else (none))) = some r := by first | (rw [hy134]; with_reducible exact H) | (have H2_ := (Option.bind_some _ _).symm.trans H; rw [hy134]; with_reducible exact H2_) | (have H2_ := (Option.bind_some _ _).symm.trans H; with_reducible exact H2_) | with_reducible exact H | (rw [hy134]; exact H) | exact H
    have Ny134 := Aside0.mk hy134
    clear hy134
    replace H := Option.bind_eq_some_iff.mp H
    obtain ⟨t137, A50, H⟩ := H
    replace H : (if y134.length + t137.length < 140737488355328 then (some (y134 ++ t137)) else (none)) = some r := H
    have A5 := Aside0.mk A50
    clear A50
    by_cases c6 : y134.length + t137.length < 140737488355328
    · rw [if_pos c6] at H
      have LMc6 := Aside0.mk c6
      clear c6
      obtain ⟨y140, hy140⟩ : ∃ y_ : List Int, y_ = (y134 ++ t137) := ⟨_, rfl⟩
      replace H : (some y140) = some r := by first | (rw [hy140]; with_reducible exact H) | (have H2_ := (Option.bind_some _ _).symm.trans H; rw [hy140]; with_reducible exact H2_) | (have H2_ := (Option.bind_some _ _).symm.trans H; with_reducible exact H2_) | with_reducible exact H | (rw [hy140]; exact H) | exact H
      have Ny140 := Aside0.mk hy140
      clear hy140
      obtain rfl := Option.some.inj H
      go_enter Tryd.func24, Tryd.ntmps24
      go_wp2_with (first | ((with_reducible refine gate_dst (N := 7) rfl ?_); refine Kd.R_lit (Kd.int .u8) _ 5 ?hg (N := 7) ?hd (xs := ([a0] : List Int)) (inner := [.int .u8 a0]) (ok := fun _ => True) (okp := fun _ => True) ?hr ?hp (fun _ hk => hk) trivial (Below.refl _ _) (Nat.le_refl _) (by simp) ?_; (case hd => rfl); (case hg => rfl); (case hr => first | (go_simp; done) | (go_simp; rfl)); (case hp => exact (Reps.one (show Kd.M (Kd.int .u8) _ _ _ a0 [.int .u8 a0] from rfl) (Reps.none _ _))); intro v129 w7 ho8 hb hg_ hnew_; clear hg_ hnew_; (first | rw [← Ny128.out] at ho8 | (simp only [Int.reduceToNat] at ho8; rw [← Ny128.out] at ho8)); have n0_ := Aside0.mk (Kd.R_lower ho8 (below_size (by repeat (first | (with_reducible first | exact HB.out | apply below_alloc | apply pw_below_drewN | apply below_drew1) | exact HB.out)))); have n1_ := Aside0.mk (below_step (by repeat (first | (with_reducible first | exact HB.out | apply below_alloc | apply pw_below_drewN | apply below_drew1) | exact HB.out)) hb); clear HB; have HO130 := n0_; have HB := n1_; clear n0_ n1_; clear hb ho8) | ((with_reducible refine gate_callee (f := 25) rfl ?_); refine goesL_ (some 12) rfl rfl Tryd.func25 (by kernel_rfl) rfl #[.int .u64 (IntKind.u64.wrap ((l1.length : Int)))] rfl (by (try simp only [List.map_toArray, List.map_cons, List.map_nil]); first | done | rfl | (simp only [List.length_drop, List.length_take]; rfl)) ?_; (with_reducible refine (secateurref01_Put.calls (IntKind.u64.wrap ((l1.length : Int))) t131 _ A3.out).mono ?_); rintro e w9 ⟨v132, rfl, ho0, hb⟩; refine ⟨_, rfl, ?_⟩; have n0_ := Aside0.mk (Kd.R_elder' (by (with_reducible repeat (first | apply Kd.R_alloc | apply Kd.R_drewN | apply Kd.R_drew)); exact HO130.out) (Kd.R_base ho0) hb); have n1_ := Aside0.mk (Kd.R_lower (Kd.R_new' ho0 (Kd.R_lt (by (with_reducible repeat (first | apply Kd.R_alloc | apply Kd.R_drewN | apply Kd.R_drew)); exact HO130.out))) (below_size (by repeat (first | (with_reducible first | exact HB.out | apply below_alloc | apply pw_below_drewN | apply below_drew1) | exact HB.out)))); have n2_ := Aside0.mk (below_step (by repeat (first | (with_reducible first | exact HB.out | apply below_alloc | apply pw_below_drewN | apply below_drew1) | exact HB.out)) hb); clear HO130; clear HB; have HO130 := n0_; have HO133 := n1_; have HB := n2_; clear n0_ n1_ n2_; (try clear hb); (try clear hb2); (try clear hk); (try clear hi); (try clear ho0); obtain ⟨Ao11, co11, eo11⟩ := Kd.R_slice HO133.out; subst eo11) | ((with_reducible refine gate_builtin (b := .append) (xs := #[.tmp 8, .tmp 12]) rfl ?_); at_builtin; refine Kd.R_append_rows (Kd.int .u8) (w0 := w) w.heap.size rfl (.tmp 8) (.tmp 12) 22 5 (.int .u8 0) 1 rfl Tryd.underlying22 info5 rfl (by decide) (by omega) v129 y128 t131 _ _ _ (fun k_ => some k_ ≠ (.slice Ao11 t131.length co11 : Value).ownBlock) (fun _ => False) rfl rfl ?aO ?aR (fun _ _ h => h) (fun _ h => h.elim) ?aF ?aB ?aS ?aL ?_; (case aR => repeat (first | exact (Kd.R_reads' HO133.out).2.2 | (with_reducible refine Kd.C_alloc ?_ _) | (with_reducible refine Kd.C_drewN ?_ _) | (with_reducible refine Kd.C_drew ?_))); (case aB => exact (by repeat (first | (with_reducible first | exact HB.out | apply below_alloc | apply pw_below_drewN | apply below_drew1) | exact HB.out))); (case aF => exact (fun k_ hk => Kd.fresh' (Kd.R_lt (by (with_reducible repeat (first | apply Kd.R_alloc | apply Kd.R_drewN | apply Kd.R_drew)); exact HO133.out)) k_ hk)); (case aO => exact (by (with_reducible repeat (first | apply Kd.R_alloc | apply Kd.R_drewN | apply Kd.R_drew)); exact Kd.R_mono HO130.out (fun _ hk => hk.2))); (case aS => exact (below_size (by repeat (first | (with_reducible first | exact HB.out | apply below_alloc | apply pw_below_drewN | apply below_drew1) | exact HB.out)))); (case aL => have := LMc4.out; omega); intro v135 w10 ho hb hg hat; rw [← Ny134.out] at ho; have n0_ := Aside0.mk (Kd.R_after (ok := (fun _ => True)) (by (with_reducible repeat (first | apply Kd.R_alloc | apply Kd.R_drewN | apply Kd.R_drew)); exact HO133.out) hg hat); have n1_ := Aside0.mk (hb); have n2_ := Aside0.mk (ho); clear HO133; clear HB; clear HO130; have HO133 := n0_; have HB := n1_; have HO136 := n2_; clear n0_ n1_ n2_; clear ho hb hg hat) | ((with_reducible refine gate_callee (f := 78) rfl ?_); refine goesL_ (some 16) rfl rfl Tryd.func78 (by kernel_rfl) rfl #[.slice A1 l1.length c1] rfl (by (try simp only [List.map_toArray, List.map_cons, List.map_nil]); first | done | rfl | (simp only [List.length_drop, List.length_take]; rfl)) ?_; (with_reducible refine (secateurref02_Seal.calls _ _ l1 t137 _ ?side1 ?side2 A5.out).mono ?_); (case side1 => repeat (first | exact (Kd.C_below HR1.out HB.out) | (with_reducible refine Kd.C_alloc ?_ _) | (with_reducible refine Kd.C_drewN ?_ _) | (with_reducible refine Kd.C_drew ?_))); (case side2 => exact HC1.out); rintro e w12 ⟨v138, rfl, ho0, hb⟩; refine ⟨_, rfl, ?_⟩; have n0_ := Aside0.mk (Kd.R_elder' (by (with_reducible repeat (first | apply Kd.R_alloc | apply Kd.R_drewN | apply Kd.R_drew)); exact HO133.out) (Kd.R_base ho0) hb); have n1_ := Aside0.mk (Kd.R_elder' (by (with_reducible repeat (first | apply Kd.R_alloc | apply Kd.R_drewN | apply Kd.R_drew)); exact HO136.out) (Kd.R_base ho0) hb); have n2_ := Aside0.mk (Kd.R_lower (Kd.R_new' (Kd.R_new' ho0 (Kd.R_lt (by (with_reducible repeat (first | apply Kd.R_alloc | apply Kd.R_drewN | apply Kd.R_drew)); exact HO133.out))) (Kd.R_lt (by (with_reducible repeat (first | apply Kd.R_alloc | apply Kd.R_drewN | apply Kd.R_drew)); exact HO136.out))) (below_size (by repeat (first | (with_reducible first | exact HB.out | apply below_alloc | apply pw_below_drewN | apply below_drew1) | exact HB.out)))); have n3_ := Aside0.mk (below_step (by repeat (first | (with_reducible first | exact HB.out | apply below_alloc | apply pw_below_drewN | apply below_drew1) | exact HB.out)) hb); clear HO133; clear HO136; clear HB; have HO133 := n0_; have HO136 := n1_; have HO139 := n2_; have HB := n3_; clear n0_ n1_ n2_ n3_; (try clear hb); (try clear hb2); (try clear hk); (try clear hi); (try clear ho0); obtain ⟨Ao14, co14, eo14⟩ := Kd.R_slice HO139.out; subst eo14) | ((with_reducible refine gate_builtin (b := .append) (xs := #[.tmp 14, .tmp 16]) rfl ?_); at_builtin; refine Kd.R_append_rows (Kd.int .u8) (w0 := w) w.heap.size rfl (.tmp 14) (.tmp 16) 22 5 (.int .u8 0) 1 rfl Tryd.underlying22 info5 rfl (by decide) (by omega) v135 y134 t137 _ _ _ (fun k_ => some k_ ≠ (.slice Ao11 t131.length co11 : Value).ownBlock ∧ some k_ ≠ (.slice Ao14 t137.length co14 : Value).ownBlock) (fun _ => False) rfl rfl ?aO ?aR (fun _ _ h => h) (fun _ h => h.elim) ?aF ?aB ?aS ?aL ?_; (case aR => repeat (first | exact (Kd.R_reads' HO139.out).2.2 | (with_reducible refine Kd.C_alloc ?_ _) | (with_reducible refine Kd.C_drewN ?_ _) | (with_reducible refine Kd.C_drew ?_))); (case aB => exact (by repeat (first | (with_reducible first | exact HB.out | apply below_alloc | apply pw_below_drewN | apply below_drew1) | exact HB.out))); (case aF => exact (fun k_ hk => ⟨Kd.fresh' (Kd.R_lt (by (with_reducible repeat (first | apply Kd.R_alloc | apply Kd.R_drewN | apply Kd.R_drew)); exact HO133.out)) k_ hk, Kd.fresh' (Kd.R_lt (by (with_reducible repeat (first | apply Kd.R_alloc | apply Kd.R_drewN | apply Kd.R_drew)); exact HO139.out)) k_ hk⟩)); (case aO => exact (by (with_reducible repeat (first | apply Kd.R_alloc | apply Kd.R_drewN | apply Kd.R_drew)); exact HO136.out)); (case aS => exact (below_size (by repeat (first | (with_reducible first | exact HB.out | apply below_alloc | apply pw_below_drewN | apply below_drew1) | exact HB.out)))); (case aL => have := LMc6.out; omega); intro v141 w13 ho hb hg hat; rw [← Ny140.out] at ho; have n0_ := Aside0.mk (Kd.R_after (ok := (fun k_ => some k_ ≠ (.slice Ao14 t137.length co14 : Value).ownBlock)) (by (with_reducible repeat (first | apply Kd.R_alloc | apply Kd.R_drewN | apply Kd.R_drew)); exact Kd.R_mono HO133.out (fun _ hk => ⟨hk.2, hk.1.2⟩)) hg hat); have n1_ := Aside0.mk (Kd.R_after (ok := (fun k_ => some k_ ≠ (.slice Ao11 t131.length co11 : Value).ownBlock)) (by (with_reducible repeat (first | apply Kd.R_alloc | apply Kd.R_drewN | apply Kd.R_drew)); exact Kd.R_mono HO139.out (fun _ hk => ⟨hk.1.2, hk.2⟩)) hg hat); have n2_ := Aside0.mk (hb); have n3_ := Aside0.mk (ho); clear HO133; clear HO139; clear HB; clear HO136; have HO133 := n0_; have HO139 := n1_; have HB := n2_; have HO142 := n3_; clear n0_ n1_ n2_ n3_; clear ho hb hg hat))
      go_ret
      exact ⟨_, by first | rfl | (simp [errW_none, errW_some] <;> rfl) | (simp [*, errW_none, errW_some] <;> rfl), by (with_reducible repeat (first | apply Kd.R_alloc | apply Kd.R_drewN | apply Kd.R_drew)); exact Kd.R_mono HO142.out (fun _ hk => trivial), by repeat (first | (with_reducible first | exact HB.out | apply below_alloc | apply pw_below_drewN | apply below_drew1) | exact HB.out)⟩
    · rw [if_neg c6] at H
      exact absurd H (by simp)
  · rw [if_neg c4] at H
    exact absurd H (by simp)

end Go.Proofs.YtmlbfepibfobaaaDoor.Q30
end

section
-- Written by this session's program layer.py (the kit's print, turned), not by hand.
namespace Go.Proofs.YtmlbfepibfobaaaDoor.Q30
open Go.RowKit Go.Proofs.YtmlbfepibfobaaaDoorW.PrintWords Go.Proofs.YtmlbfepibfobaaaDoorW.PrintLast Go.Proofs.YtmlbfepibfobaaaDoorW.PrintMore Go.Proofs.YtmlbfepibfobaaaDoor.Hand
attribute [local go_sem] max2_int min2_int max_two min_two max_three min_three max_four min_four   -- for this text's walks alone
set_option linter.unusedVariables false
set_option linter.unusedSimpArgs false

end Go.Proofs.YtmlbfepibfobaaaDoor.Q30
end

section
namespace Go.Proofs.YtmlbfepibfobaaaDoor.Hand
open Go.RowKit Go.Proofs.YtmlbfepibfobaaaDoorW.PrintWords Go.Proofs.YtmlbfepibfobaaaDoorW.PrintLast Go.Proofs.YtmlbfepibfobaaaDoorW.PrintMore
set_option linter.unusedVariables false
set_option linter.unusedSimpArgs false

theorem below_gr {w W w1 : World} {b : Nat} (h : Below w.heap.size w W) (hg : W.grownBy w1 (some b)) (hb : w.heap.size ≤ b) : Below w.heap.size w w1 := h.grown hg h.size (fun k e => by cases e; exact hb)
def secateurlaw03_live.f : Option Bool := some true
set_option maxHeartbeats 8000000 in
set_option maxRecDepth 100000 in
theorem secateurlaw03_live.calls (r : Bool) (w : World) (hGCrcTab : CrcTab w) (h : secateurlaw03_live.f = some r) :
    Calls Tryd.prog 16 #[] w fun e w' => e = .returned (.bool r) ∧ Below w.heap.size w w' := by
  obtain rfl := Option.some.inj h
  have HG := Aside0.mk hGCrcTab
  clear hGCrcTab h
  have hq1 : ∀ (w : World), (binOp .eql 31 (.agg #[.int .i64 1, .int .i64 0]) (.agg #[.int .i64 1, .int .i64 0])).run Tryd.prog w = .ok (.bool true) w := fun _ => by kernel_rfl
  have hq7 : ∀ (w : World), (binOp .eql 31 (.agg #[.int .i64 7, .int .i64 0]) (.agg #[.int .i64 7, .int .i64 0])).run Tryd.prog w = .ok (.bool true) w := fun _ => by kernel_rfl
  have ht : lebTake ([2, 97, 98].take [2, 97, 98].length) ((0 : Nat) : Int) = (((2 : Nat) : Int), ((1 : Nat) : Int), 0) := by decide +kernel
  have hs : strOfNums (cutN [2, 97, 98] 1 2) = ⟨#[97, 98]⟩ := by decide +kernel
  obtain ⟨x, hx⟩ : ∃ x, Q30.wire_Section.f 1 [] = some x := ⟨_, rfl⟩
  have hx6 : x.length = 6 := by
    have : (Q30.wire_Section.f 1 []).map List.length = some 6 := by decide +kernel
    rw [hx] at this
    exact Option.some.inj this
  have HT := Aside0.mk ht; have HS := Aside0.mk hs; have HX := Aside0.mk hx; have HX6 := Aside0.mk hx6
  clear ht hs hx hx6
  have HB0 := Aside0.mk (below_alloc (Below.refl w.heap.size w) (.cells #[.int .u8 2, .int .u8 97, .int .u8 98] 5))
  have HC0 := Aside0.mk (C_of_blk (k := .u8) (t := 5) (cs := [2, 97, 98]) (World.alloc_heap_new w (.cells #[.int .u8 2, .int .u8 97, .int .u8 98] 5)) (by decide))
  go_enter Tryd.func16, Tryd.ntmps16
  go_wp2_with fail
  refine (wire_Open _ 3 [2, 97, 98] _ HC0.out (by decide) (by decide) (by decide)).mono ?_
  rintro e w1 ⟨⟨b1, A1, c1, rfl, hb1, hr1, hf1, ha1⟩, hB1⟩
  have HB1 := Aside0.mk (below_step HB0.out hB1)
  have hb1' : w.heap.size ≤ b1 := Nat.le_trans HB0.out.size hb1
  go_wp2_with fail
  refine (wire_Text_some b1 A1 c1 _ _ 0 0 w1 hr1 hf1 _ 1 HT.out 2 rfl (by decide) (by decide)).mono ?_
  rintro e w2 ⟨rfl, hr2, hg2⟩
  rw [HS.out]
  have HB2 := Aside0.mk (below_gr HB1.out hg2 hb1')
  have HA2 := Aside0.mk (below_alloc HB2.out (.cells #[.int .u8 7] 5))
  have HC2 := Aside0.mk (C_of_blk (k := .u8) (t := 5) (cs := [7]) (World.alloc_heap_new w2 (.cells #[.int .u8 7] 5)) (by decide))
  have hr2a := rd_below hr2 (below_alloc (Below.refl w2.heap.size w2) (.cells #[.int .u8 7] 5))
  go_wp2_with fail
  refine (wire_Open _ 1 [7] _ HC2.out (by decide) (by decide) (by decide)).mono ?_
  rintro e w3 ⟨⟨b3, A3, c3, rfl, hb3, hr3, hf3, ha3⟩, hB3⟩
  have HB3 := Aside0.mk (below_step HA2.out hB3)
  have hr2b := rd_below hr2a hB3
  have hb3' : w.heap.size ≤ b3 := Nat.le_trans HA2.out.size hb3
  go_wp2_with fail
  refine (wire_Section_form b3 A3 c3 _ _ 0 0 w3 hr3 hf3 8 (by decide) (by decide)).mono ?_
  rintro e w4 ⟨rfl, hr4, hg4⟩
  have HB4 := Aside0.mk (below_gr HB3.out hg4 hb3')
  have hne : b1 ≠ b3 := fun e => by have := rd_lt hr2a; omega
  have hr2c := rd_kept hr2b hg4 hne (fun ad e => fun h2 => by
    have h1 := C_far hr2a.2 (by decide) ad e
    omega)
  go_wp2_with fail
  refine (wire_End_some b1 A1 c1 _ _ 3 0 w4 hr2c hf1 rfl).mono ?_
  rintro e w5 ⟨rfl, hr5, hg5⟩
  have HB5 := Aside0.mk (below_gr HB4.out hg5 hb1')
  have hr4b := rd_kept hr4 hg5 (Ne.symm hne) (fun ad e => fun h2 => by
    have h1 := ha3 ad e
    have := rd_lt hr2a
    omega)
  go_wp2_with fail
  refine (wire_Fault b3 A3 c3 _ _ _ _ _ w5 hr4b).mono ?_
  rintro e w6 ⟨rfl, hB6⟩
  have HB6 := Aside0.mk (below_step HB5.out hB6)
  go_wp2_with fail
  refine (wire_Fault_nil w6).mono ?_
  rintro e w7 ⟨rfl, hB7⟩
  have HB7 := Aside0.mk (below_step HB6.out hB7)
  go_wp2_with fail
  refine (Q30.wire_Section.calls 1 none 0 [] x w7 (Kd.C_nil _ _) (by decide) (HG.out.below HB7.out) HX.out).mono ?_
  rintro e w8 ⟨v8, rfl, hR8, hB8⟩
  obtain ⟨A8, c8, rfl⟩ := Kd.R_slice hR8
  rw [HX6.out]
  have HB8 := Aside0.mk (below_step HB7.out hB8)
  go_wp2
  go_ret
  exact ⟨rfl, HB8.out⟩
end Go.Proofs.YtmlbfepibfobaaaDoor.Hand
end

section
namespace Go.Proofs.YtmlbfepibfobaaaDoor.Hand
open Go.RowKit Go.Proofs.YtmlbfepibfobaaaDoorW.PrintWords Go.Proofs.YtmlbfepibfobaaaDoorW.PrintLast Go.Proofs.YtmlbfepibfobaaaDoorW.PrintMore
set_option linter.unusedVariables false
set_option linter.unusedSimpArgs false

def textW (s : ByteArray) : List Int := lebPut (s.size : Int) ++ bytesOf s
def sectW (id : Int) (l : List Int) : List Int := ([id] ++ lebPut (l.length : Int)) ++ sealL l
def wire_Text.f (a0 : ByteArray) : Option (List Int) := if a0.size ≤ 70368744177000 then some (textW a0) else none
def secateurref03_Text.f (a0 : ByteArray) : Option (List Int) := if a0.size ≤ 70368744177000 then some (textW a0) else none
def wire_Section.f (a0 : Int) (l1 : List Int) : Option (List Int) := if l1.all byteB = true ∧ l1.length ≤ 70368744177000 then some (sectW a0 l1) else none
def secateurref03_Section.f (a0 : Int) (l1 : List Int) : Option (List Int) := if l1.all byteB = true ∧ l1.length ≤ 70368744177000 then some (sectW a0 l1) else none
theorem sealL_len (l : List Int) : (sealL l).length = l.length + 4 := by simp [sealL, sumBytes]
theorem put_n (n : Nat) (h : n ≤ 70368744177000) : leb_Put.f (IntKind.u64.wrap (n : Int)) = some (lebPut (n : Int)) := by
  rw [u64w (by omega) (by omega)]
  unfold leb_Put.f
  rw [if_pos (by omega), if_pos (by omega)]
theorem wire_Text.calls (a0 : ByteArray) (r : List Int) (w : World) (h : wire_Text.f a0 = some r) :
    Calls Tryd.prog 22 #[.string a0] w fun e w' => ∃ v0_ : Value, e = .returned (v0_) ∧ Kd.R (Kd.int .u8) 5 w' w.heap.size (fun _ => True) v0_ r ∧ Below w.heap.size w w' := by
  unfold wire_Text.f at h
  split at h
  · rename_i hg
    obtain rfl := Option.some.inj h
    refine Q30.wire_Text.calls a0 _ w ?_
    have h1 := lebPut_length_le (a0.size : Int)
    unfold Q30.wire_Text.f
    rw [put_n _ hg]
    try simp only [Option.bind_some]
    rw [if_pos (by omega)]
    rfl
  · cases h
theorem secateurref03_Text.calls (a0 : ByteArray) (r : List Int) (w : World) (h : secateurref03_Text.f a0 = some r) :
    Calls Tryd.prog 23 #[.string a0] w fun e w' => ∃ v0_ : Value, e = .returned (v0_) ∧ Kd.R (Kd.int .u8) 5 w' w.heap.size (fun _ => True) v0_ r ∧ Below w.heap.size w w' := by
  unfold secateurref03_Text.f at h
  split at h
  · rename_i hg
    obtain rfl := Option.some.inj h
    refine Q30.secateurref03_Text.calls a0 _ w ?_
    have h1 := lebPut_length_le (a0.size : Int)
    unfold Q30.secateurref03_Text.f
    rw [show secateurref01_Put.f (IntKind.u64.wrap (a0.size : Int)) = _ from put_n _ hg]
    try simp only [Option.bind_some]
    rw [if_pos (by omega)]
    rfl
  · cases h
theorem wire_Section.calls (a0 : Int) (A1 : Option Addr) (c1 : Nat) (l1 : List Int) (r : List Int) (w : World) (hr1 : Kd.C (Kd.int .u8) w A1 l1.length l1) (hc1 : l1.length ≤ c1) (hGCrcTab : CrcTab w) (h : wire_Section.f a0 l1 = some r) :
    Calls Tryd.prog 17 #[.int .u8 a0, .slice A1 l1.length c1] w fun e w' => ∃ v0_ : Value, e = .returned (v0_) ∧ Kd.R (Kd.int .u8) 5 w' w.heap.size (fun _ => True) v0_ r ∧ Below w.heap.size w w' := by
  unfold wire_Section.f at h
  split at h
  · rename_i hg
    obtain rfl := Option.some.inj h
    refine Q30.wire_Section.calls a0 A1 c1 l1 _ w hr1 hc1 hGCrcTab ?_
    have h1 := lebPut_length_le (l1.length : Int)
    have h2 := sealL_len l1
    unfold Q30.wire_Section.f crc_Seal.f
    rw [put_n _ hg.2, if_pos ⟨hg.1, by omega⟩]
    try simp only [Option.bind_some]
    rw [if_pos (by simp only [List.length_cons, List.length_nil]; omega)]
    try simp only [Option.bind_some]
    rw [if_pos (by simp only [List.length_cons, List.length_nil, List.length_append]; omega)]
    rfl
  · cases h
theorem secateurref03_Section.calls (a0 : Int) (A1 : Option Addr) (c1 : Nat) (l1 : List Int) (r : List Int) (w : World) (hr1 : Kd.C (Kd.int .u8) w A1 l1.length l1) (hc1 : l1.length ≤ c1) (h : secateurref03_Section.f a0 l1 = some r) :
    Calls Tryd.prog 24 #[.int .u8 a0, .slice A1 l1.length c1] w fun e w' => ∃ v0_ : Value, e = .returned (v0_) ∧ Kd.R (Kd.int .u8) 5 w' w.heap.size (fun _ => True) v0_ r ∧ Below w.heap.size w w' := by
  unfold secateurref03_Section.f at h
  split at h
  · rename_i hg
    obtain rfl := Option.some.inj h
    refine Q30.secateurref03_Section.calls a0 A1 c1 l1 _ w hr1 hc1 ?_
    have h1 := lebPut_length_le (l1.length : Int)
    have h2 := sealL_len l1
    unfold Q30.secateurref03_Section.f
    rw [show secateurref01_Put.f (IntKind.u64.wrap (l1.length : Int)) = _ from put_n _ hg.2, show secateurref02_Seal.f l1 = some (sealL l1) by unfold secateurref02_Seal.f crc_Seal.f; rw [if_pos ⟨hg.1, by omega⟩]]
    try simp only [Option.bind_some]
    rw [if_pos (by simp only [List.length_cons, List.length_nil]; omega)]
    try simp only [Option.bind_some]
    rw [if_pos (by simp only [List.length_cons, List.length_nil, List.length_append]; omega)]
    rfl
  · cases h
end Go.Proofs.YtmlbfepibfobaaaDoor.Hand
end

section
namespace Go.Proofs.YtmlbfepibfobaaaDoor.Hand
open Go.RowKit Go.Proofs.YtmlbfepibfobaaaDoorW.PrintWords Go.Proofs.YtmlbfepibfobaaaDoorW.PrintLast
theorem sumBytes_bytes (l : List Int) : (sumBytes (crcSum l)).all byteB = true := by
  have := crcSum_range l
  simp only [sumBytes, List.all_cons, List.all_nil, Bool.and_true, Bool.and_eq_true, byteB_iff]
  omega
theorem sealL_bytes {l : List Int} (h : l.all byteB = true) : (sealL l).all byteB = true := by
  rw [sealL, List.all_append, h, sumBytes_bytes]; rfl
theorem openL_sealL (l : List Int) : openL (sealL l) = (l, 0) := by
  have hl : (sealL l).length = l.length + 4 := by simp [sealL, sumBytes]
  have hd : (sealL l).drop l.length = sumBytes (crcSum l) := by simp [sealL]
  have ht : (sealL l).take l.length = l := by simp [sealL]
  unfold openL
  rw [if_neg (by omega), show (sealL l).length - 4 = l.length by omega, hd, ht, if_pos rfl]
theorem sealL_openL {l : List Int} (h : (openL l).2 = 0) : sealL (openL l).1 = l := by
  unfold openL at h ⊢
  split at h
  · simp at h
  · rename_i h4
    rw [if_neg h4]
    split at h
    · rename_i h5
      rw [if_pos h5]
      show l.take _ ++ sumBytes _ = l
      rw [← h5, List.take_append_drop]
    · simp at h
theorem openL_bytes {l : List Int} (h : l.all byteB = true) : (openL l).1.all byteB = true ∧ (openL l).1.length ≤ l.length := by
  unfold openL
  split
  · exact ⟨rfl, Nat.zero_le _⟩
  · split
    · exact ⟨List.all_eq_true.2 (fun x hx => List.all_eq_true.1 h x (List.mem_of_mem_take hx)), by simp⟩
    · exact ⟨rfl, Nat.zero_le _⟩
theorem sealL_length (l : List Int) : (sealL l).length = l.length + 4 := by simp [sealL, sumBytes]
end Go.Proofs.YtmlbfepibfobaaaDoor.Hand
end

section
namespace Go.Proofs.YtmlbfepibfobaaaDoor.Hand
open Go.RowKit Go.Proofs.YtmlbfepibfobaaaDoorW.PrintWords Go.Proofs.YtmlbfepibfobaaaDoorW.PrintLast
set_option linter.unusedVariables false
set_option linter.unusedSimpArgs false

/-- The state behind some words. -/
def crcX (s : B32) : List B32 → B32
  | [] => s
  | x :: l => crcX (bit8 (s ^^^ x)) l
theorem crcAdd_X (s : B32) (l : List Int) : crcAdd s l = crcX s (l.map (BitVec.ofInt 32)) := by
  induction l generalizing s with
  | nil => rfl
  | cons x l ih => exact ih _
theorem crcX_xor (s t : B32) : ∀ (x y : List B32), x.length = y.length → crcX s x ^^^ crcX t y = crcX (s ^^^ t) (List.zipWith (· ^^^ ·) x y)
  | [], [], _ => rfl
  | a :: x, b :: y, h => by
    show crcX _ x ^^^ crcX _ y = crcX _ (List.zipWith (· ^^^ ·) x y)
    rw [crcX_xor _ _ x y (by simpa using h), ← bit8_xor, xor4]
  | [], _ :: _, h => by simp at h
  | _ :: _, [], h => by simp at h
theorem bit8_inj {a b : B32} (h : bit8 a = bit8 b) : a = b := by
  have h1 : bit8 (a ^^^ b) = 0#32 := by rw [bit8_xor, h, BitVec.xor_self]
  have h2 := bit8_inj0 _ h1
  have h3 : a ^^^ b ^^^ b = 0#32 ^^^ b := by rw [h2]
  rwa [BitVec.xor_assoc, BitVec.xor_self, BitVec.xor_zero, BitVec.zero_xor] at h3
def Bn (n : Nat) (p : B32) : Prop := ∀ i, n ≤ i → p.getLsbD i = false
theorem Bn.shl {n : Nat} {p : B32} (h : Bn n p) : Bn (n + 8) (p <<< 8) := fun i hi => by
  rw [BitVec.getLsbD_shiftLeft, h (i - 8) (by omega), Bool.and_false]
theorem Bn.mono {n m : Nat} {p : B32} (h : Bn n p) (hm : n ≤ m) : Bn m p := fun i hi => h i (by omega)
theorem Bn.xor {n : Nat} {p q : B32} (h : Bn n p) (k : Bn n q) : Bn n (p ^^^ q) := fun i hi => by rw [BitVec.getLsbD_xor, h i hi, k i hi]; rfl
theorem shl_low {v : B32} {i : Nat} (h : i < 8) : (v <<< 8).getLsbD i = false := by
  rw [BitVec.getLsbD_shiftLeft, decide_eq_true h, Bool.not_true, Bool.and_false, Bool.false_and]
theorem shl_high {v : B32} {i : Nat} (h : i < 24) : (v <<< 8).getLsbD (i + 8) = v.getLsbD i := by
  rw [BitVec.getLsbD_shiftLeft, decide_eq_true (show i + 8 < 32 by omega), decide_eq_false (show ¬ i + 8 < 8 by omega)]
  simp
theorem shl_split {p v : B32} (hp : Bn 8 p) (hv : Bn 24 v) (h : p = v <<< 8) : p = 0#32 ∧ v = 0#32 := by
  constructor
  · apply BitVec.eq_of_getLsbD_eq
    intro i hi
    rw [BitVec.getLsbD_zero]
    by_cases h8 : i < 8
    · rw [h, shl_low h8]
    · exact hp i (by omega)
  · apply BitVec.eq_of_getLsbD_eq
    intro i hi
    rw [BitVec.getLsbD_zero]
    by_cases h8 : i < 24
    · rw [← shl_high h8, ← h]; exact hp _ (by omega)
    · exact hv i (by omega)
theorem bit8_shl {v : B32} (hv : Bn 24 v) : bit8 (v <<< 8) = v := by
  unfold bit8
  rw [bit4_high (v <<< 8) ⟨shl_low (by omega), shl_low (by omega), shl_low (by omega), shl_low (by omega)⟩, bit4_high]
  · apply BitVec.eq_of_getLsbD_eq
    intro i hi
    rw [BitVec.getLsbD_ushiftRight, BitVec.getLsbD_ushiftRight]
    by_cases h8 : i < 24
    · rw [show 4 + (4 + i) = i + 8 by omega, shl_high h8]
    · rw [hv i (by omega), BitVec.getLsbD_of_ge _ _ (by omega)]
  · refine ⟨?_, ?_, ?_, ?_⟩ <;> (rw [BitVec.getLsbD_ushiftRight]; exact shl_low (by omega))
theorem xor_eq0 {a b : B32} (h : a ^^^ b = 0#32) : a = b := by
  have h3 : a ^^^ b ^^^ b = 0#32 ^^^ b := by rw [h]
  rwa [BitVec.xor_assoc, BitVec.xor_self, BitVec.xor_zero, BitVec.zero_xor] at h3
theorem xor_move {a b c : B32} (h : a ^^^ b = c) : a = b ^^^ c := by
  rw [← h, BitVec.xor_comm a b, ← BitVec.xor_assoc, BitVec.xor_self, BitVec.zero_xor]
theorem crc_four_zero {a b c e : B32} (ha : Bn 8 a) (hb : Bn 8 b) (hc : Bn 8 c) (he : Bn 8 e) (h : bit8 (bit8 (bit8 (bit8 a ^^^ b) ^^^ c) ^^^ e) = 0#32) : a = 0#32 ∧ b = 0#32 ∧ c = 0#32 ∧ e = 0#32 := by
  have h1 : bit8 (bit8 (bit8 a ^^^ b) ^^^ c) = bit8 (e <<< 8) := by rw [bit8_shl (he.mono (by omega))]; exact xor_eq0 (bit8_inj0 _ h)
  have h2 : bit8 (bit8 a ^^^ b) = c ^^^ e <<< 8 := xor_move (bit8_inj h1)
  have b2 : Bn 16 (c ^^^ e <<< 8) := (hc.mono (by omega)).xor he.shl
  have h3 : bit8 (bit8 a ^^^ b) = bit8 ((c ^^^ e <<< 8) <<< 8) := by rw [bit8_shl (b2.mono (by omega))]; exact h2
  have h4 : bit8 a = b ^^^ (c ^^^ e <<< 8) <<< 8 := xor_move (bit8_inj h3)
  have b4 : Bn 24 (b ^^^ (c ^^^ e <<< 8) <<< 8) := (hb.mono (by omega)).xor b2.shl
  have h5 : a = (b ^^^ (c ^^^ e <<< 8) <<< 8) <<< 8 := bit8_inj (by rw [bit8_shl b4]; exact h4)
  obtain ⟨q1, q2⟩ := shl_split ha b4 h5
  obtain ⟨q3, q4⟩ := shl_split hb (b2.mono (by omega)) (xor_eq0 q2)
  obtain ⟨q5, q6⟩ := shl_split hc (he.mono (by omega)) (xor_eq0 q4)
  exact ⟨q1, q3, q5, q6⟩
theorem crcX_zeros {z : B32} : ∀ (l : List B32), (∀ x ∈ l, x = 0#32) → crcX z l = 0#32 → z = 0#32
  | [], _, h => h
  | x :: l, hx, h => by
    have h1 := crcX_zeros l (fun y hy => hx y (List.mem_cons_of_mem _ hy)) h
    rw [hx x List.mem_cons_self, BitVec.xor_zero] at h1
    exact bit8_inj0 _ h1
theorem crcX_win0 : ∀ (d : List B32), (∀ x ∈ d, Bn 8 x) → (∀ x ∈ d.drop 4, x = 0#32) → crcX 0#32 d = 0#32 → ∀ x ∈ d, x = 0#32
  | [], _, _, _ => by simp
  | [a], hb, _, h => by
    have h : bit8 (0#32 ^^^ a) = 0#32 := h
    rw [BitVec.zero_xor] at h
    simpa using bit8_inj0 _ h
  | [a, b], hb, _, h => by
    have h : bit8 (bit8 (0#32 ^^^ a) ^^^ b) = 0#32 := h
    rw [BitVec.zero_xor] at h
    have z : Bn 8 0#32 := fun i _ => BitVec.getLsbD_zero
    obtain ⟨q1, q2, _⟩ := crc_four_zero (hb a (by simp)) (hb b (by simp)) z z (by rw [h]; decide)
    simp [q1, q2]
  | [a, b, c], hb, _, h => by
    have h : bit8 (bit8 (bit8 (0#32 ^^^ a) ^^^ b) ^^^ c) = 0#32 := h
    rw [BitVec.zero_xor] at h
    have z : Bn 8 0#32 := fun i _ => BitVec.getLsbD_zero
    obtain ⟨q1, q2, q3, _⟩ := crc_four_zero (hb a (by simp)) (hb b (by simp)) (hb c (by simp)) z (by rw [h]; decide)
    simp [q1, q2, q3]
  | a :: b :: c :: e :: r, hb, hz, h => by
    have h : crcX (bit8 (bit8 (bit8 (bit8 (0#32 ^^^ a) ^^^ b) ^^^ c) ^^^ e)) r = 0#32 := h
    rw [BitVec.zero_xor] at h
    have hz : ∀ x ∈ r, x = 0#32 := by simpa using hz
    obtain ⟨q1, q2, q3, q4⟩ := crc_four_zero (hb a (by simp)) (hb b (by simp)) (hb c (by simp)) (hb e (by simp)) (crcX_zeros r hz h)
    intro x hx
    simp only [List.mem_cons] at hx
    rcases hx with rfl | rfl | rfl | rfl | hx
    · exact q1
    · exact q2
    · exact q3
    · exact q4
    · exact hz x hx
theorem crcX_win : ∀ (n : Nat) (d : List B32), (∀ x ∈ d, Bn 8 x) → (∀ x ∈ d.take n, x = 0#32) → (∀ x ∈ d.drop (n + 4), x = 0#32) → crcX 0#32 d = 0#32 → ∀ x ∈ d, x = 0#32
  | 0, d, hb, _, hz, h => crcX_win0 d hb (by simpa using hz) h
  | n + 1, [], _, _, _, _ => by simp
  | n + 1, y :: d, hb, h0, hz, h => by
    have hy : y = 0#32 := h0 y (by simp)
    subst hy
    have h : crcX (bit8 (0#32 ^^^ 0#32)) d = 0#32 := h
    rw [BitVec.xor_self, bit8_zero] at h
    have := crcX_win n d (fun x hx => hb x (List.mem_cons_of_mem _ hx)) (fun x hx => h0 x (by simp [hx])) (fun x hx => hz x (by rw [show n + 1 + 4 = (n + 4) + 1 by omega]; simpa using hx)) h
    intro x hx
    rcases List.mem_cons.1 hx with rfl | hx
    · rfl
    · exact this x hx
theorem wu8 {x : Int} (h0 : 0 ≤ x) (h1 : x < 256) : IntKind.u8.wrap x = x := by
  simp [IntKind.wrap, IntKind.bits, IntKind.signed]
  omega
theorem toNat8 {a : Int} (h : byteB a = true) : (BitVec.ofInt 8 a).toNat = a.toNat := by
  have := byteB_iff.1 h
  rw [BitVec.toNat_ofInt]
  have : ((2 ^ 8 : Nat) : Int) = 256 := by decide
  rw [this]
  omega
theorem toNat32 {a : Int} (h : byteB a = true) : (BitVec.ofInt 32 a).toNat = a.toNat := by
  have := byteB_iff.1 h
  have h2 := toNat_of (a := a) (by omega) (by omega)
  omega
theorem u8_xor_val {a b : Int} (ha : byteB a = true) (hb : byteB b = true) : Go.bits .xor .u8 a b = ((a.toNat ^^^ b.toNat : Nat) : Int) ∧ a.toNat ^^^ b.toNat < 256 := by
  have e : (BitVec.ofInt 8 a ^^^ BitVec.ofInt 8 b).toNat = a.toNat ^^^ b.toNat := by rw [BitVec.toNat_xor, toNat8 ha, toNat8 hb]
  have hlt : (BitVec.ofInt 8 a ^^^ BitVec.ofInt 8 b).toNat < 256 := (BitVec.ofInt 8 a ^^^ BitVec.ofInt 8 b).isLt
  rw [e] at hlt
  refine ⟨?_, hlt⟩
  show IntKind.u8.wrap ((BitVec.ofInt 8 a ^^^ BitVec.ofInt 8 b).toNat : Int) = _
  rw [e]
  exact wu8 (by omega) (by omega)
theorem u8_xor_byte {a b : Int} (ha : byteB a = true) (hb : byteB b = true) : byteB (Go.bits .xor .u8 a b) = true := by
  obtain ⟨h, h2⟩ := u8_xor_val ha hb
  rw [h, byteB_iff]
  omega
theorem u8_xor_32 {a b : Int} (ha : byteB a = true) (hb : byteB b = true) : BitVec.ofInt 32 (Go.bits .xor .u8 a b) = BitVec.ofInt 32 a ^^^ BitVec.ofInt 32 b := by
  apply BitVec.eq_of_toNat_eq
  rw [toNat32 (u8_xor_byte ha hb), BitVec.toNat_xor, toNat32 ha, toNat32 hb, (u8_xor_val ha hb).1]
  omega
theorem Bn_byte {a : Int} (h : byteB a = true) : Bn 8 (BitVec.ofInt 32 a) := fun i hi => by
  have h1 := byteB_iff.1 h
  show (BitVec.ofInt 32 a).toNat.testBit i = false
  rw [toNat32 h]
  exact Nat.testBit_lt_two_pow (Nat.lt_of_lt_of_le (show a.toNat < 2 ^ 8 by omega) (Nat.pow_le_pow_right (by omega) hi))
theorem getD_byte {l : List Int} (h : l.all byteB = true) (j : Nat) : byteB (l.getD j 0) = true := by
  rw [List.getD_eq_getElem?_getD]
  cases hx : l[j]? with
  | none => decide
  | some x => exact List.all_eq_true.1 h x (List.mem_of_getElem? hx)
theorem set_xor_zip (d : B32) : ∀ (l l2 : List B32) (j : Nat), j < l.length → l2 = l.set j (l.getD j 0 ^^^ d) → List.zipWith (· ^^^ ·) l2 l = (List.replicate l.length 0#32).set j d
  | [], _, j, h, _ => absurd h (Nat.not_lt_zero _)
  | a :: l, _, 0, _, e => by
    subst e
    simp only [List.set_cons_zero, List.getD_cons_zero, List.zipWith_cons_cons, List.length_cons, List.replicate_succ]
    rw [BitVec.xor_comm, ← BitVec.xor_assoc, BitVec.xor_self, BitVec.zero_xor]
    congr 1
    induction l with
    | nil => rfl
    | cons b l ih =>
      have ih' := ih (by simp)
      simp only [List.zipWith_cons_cons, BitVec.xor_self, List.length_cons, List.replicate_succ]
      rw [ih']
  | a :: l, _, j + 1, h, e => by
    subst e
    simp only [List.set_cons_succ, List.getD_cons_succ, List.zipWith_cons_cons, List.length_cons, List.replicate_succ, BitVec.xor_self]
    rw [set_xor_zip d l _ j (by simpa using h) rfl]
/-- Bytes of which one is another one have another sum. -/
theorem sum_flip (l : List Int) (j : Nat) (y : Int) (hl : l.all byteB = true) (hj : j < l.length) (hy : byteB y = true) (h0 : y ≠ 0) : crcSum (l.set j (Go.bits .xor .u8 (l.getD j 0) y)) ≠ crcSum l := by
  intro h
  have hm : (l.set j (Go.bits .xor .u8 (l.getD j 0) y)).map (BitVec.ofInt 32) = (l.map (BitVec.ofInt 32)).set j ((l.map (BitVec.ofInt 32)).getD j 0 ^^^ BitVec.ofInt 32 y) := by
    rw [List.map_set, u8_xor_32 (getD_byte hl j) hy]
    congr 1
    rw [List.getD_eq_getElem?_getD, List.getD_eq_getElem?_getD, List.getElem?_map, List.getElem?_eq_getElem hj]
    rfl
  have hz := set_xor_zip (BitVec.ofInt 32 y) (l.map (BitVec.ofInt 32)) _ j (by simpa using hj) hm
  have h1 : (~~~ crcAdd (BitVec.allOnes 32) (l.set j (Go.bits .xor .u8 (l.getD j 0) y))).toNat = (~~~ crcAdd (BitVec.allOnes 32) l).toNat := by
    unfold crcSum at h
    omega
  have h2 := BitVec.eq_of_toNat_eq h1
  have h3 : crcAdd (BitVec.allOnes 32) (l.set j (Go.bits .xor .u8 (l.getD j 0) y)) = crcAdd (BitVec.allOnes 32) l := by rw [← BitVec.not_not (b := crcAdd (BitVec.allOnes 32) (l.set j (Go.bits .xor .u8 (l.getD j 0) y))), h2, BitVec.not_not]
  have hD : crcAdd (BitVec.allOnes 32) (l.set j (Go.bits .xor .u8 (l.getD j 0) y)) ^^^ crcAdd (BitVec.allOnes 32) l = crcX 0#32 ((List.replicate l.length 0#32).set j (BitVec.ofInt 32 y)) := by
    rw [crcAdd_X, crcAdd_X, crcX_xor _ _ _ _ (by simp), hz, BitVec.xor_self, List.length_map]
  rw [h3, BitVec.xor_self] at hD
  have hw := crcX_win j _ (by
    intro x hx
    rcases List.mem_or_eq_of_mem_set hx with h | rfl
    · rw [List.eq_of_mem_replicate h]; intro i hi; simp
    · exact Bn_byte hy) (by
    intro x hx
    rw [List.take_set_of_le (Nat.le_refl j)] at hx
    exact List.eq_of_mem_replicate (List.mem_of_mem_take hx)) (by
    intro x hx
    rw [List.drop_set_of_lt (by omega)] at hx
    exact List.eq_of_mem_replicate (List.mem_of_mem_drop hx)) hD.symm (BitVec.ofInt 32 y) (List.mem_set (by simpa using hj) _)
  have := congrArg BitVec.toNat hw
  rw [toNat32 hy] at this
  have hb := byteB_iff.1 hy
  simp at this
  omega
end Go.Proofs.YtmlbfepibfobaaaDoor.Hand
end

section
namespace Go.Proofs.YtmlbfepibfobaaaDoor.Hand
open Go.RowKit Go.Proofs.YtmlbfepibfobaaaDoorW.PrintWords Go.Proofs.YtmlbfepibfobaaaDoorW.PrintLast Go.Proofs.YtmlbfepibfobaaaDoorW.PrintMore
set_option linter.unusedVariables false
set_option linter.unusedSimpArgs false

theorem R_store {W : World} {base : Nat} {ok : Nat → Prop} {c : Nat} {ad : Addr} {l : List Int} (h : Kd.R (Kd.int .u8) 5 W base ok (.slice (some ad) l.length c) l) (i : Nat) (hi : i < l.length) :
    base ≤ ad.block ∧ ad.block < W.heap.size ∧ W.cell? (ad.add i) = some (.int .u8 (l.getD i 0)) ∧ W.frozen? (ad.add i) = false ∧ ∀ x, Kd.C (Kd.int .u8) (W.setCell (ad.add i) (.int .u8 x)) (some ad) l.length (l.set i x) := by
  obtain ⟨g, rfl⟩ := Kd.R_head h
  have hC := (Kd.R_reads' h).2.2
  have hR := Kd.reads_of_C (d := (0 : Int)) hC
  obtain ⟨cells, hc⟩ := own_typed (Kd.R_own h).choose_spec g (by simp [Value.ownBlock])
  have e : ∀ j, (⟨g, 0, none⟩ : Addr).add j = ⟨g, j, none⟩ := fun j => by simp [Addr.add]; intro h0; exact h0.symm
  have hcell : ∀ j, j < l.length → W.cell? ((⟨g, 0, none⟩ : Addr).add j) = some (.int .u8 (l.getD j 0)) := fun j hj => by
    obtain ⟨ad, had, hcell⟩ := ReadsOf.at_ hR (j : Int) (by omega) (by omega)
    cases had
    rw [Int.toNat_natCast] at hcell
    exact hcell
  refine ⟨Kd.R_base h g (by simp [Value.ownBlock]), Kd.R_lt h g (by simp [Value.ownBlock]), hcell i hi, by rw [e]; exact blk_frozen hc i, fun x => ?_⟩
  have hl : (l.set i x).length = l.length := List.length_set ..
  rw [← hl]
  refine Kd.C_of_reads (d := (0 : Int)) (h1 := fun _ => rfl) ⟨rfl, by rw [hl]; exact hR.2.1, fun _ => ⟨_, rfl, fun j hj => ?_⟩⟩
  rw [hl] at hj
  by_cases hij : j = i
  · subst hij
    rw [World.cell?_setCell_same _ _ _ (hcell j hj)]
    simp [List.getD_eq_getElem?_getD, hj]
  · rw [World.cell?_setCell_other _ _ _ _ (by rw [e, e]; intro h; cases h; exact hij rfl), hcell j hj]
    rw [List.getD_eq_getElem?_getD, List.getD_eq_getElem?_getD, List.getElem?_set_ne (Ne.symm hij)]
/-- A section's bytes with any body. -/
def sectB (id : Int) (n : Nat) (body : List Int) : List Int := [id] ++ lebPut (n : Int) ++ body
theorem sectW_B (id : Int) (l : List Int) : sectW id l = sectB id l.length (sealL l) := rfl
theorem put_pos (n : Int) : 0 < (lebPut n).length := lebTail_length_pos 10 n (by omega)
theorem sectB_len (id : Int) (n : Nat) (body : List Int) : (sectB id n body).length = 1 + (lebPut (n : Int)).length + body.length := by simp [sectB]; omega
theorem sectB_id (id : Int) (n : Nat) (body : List Int) : (sectB id n body).getD 0 0 = id := rfl
theorem sectB_num (id : Int) (n : Nat) (hn : n < 18446744073709551616) (body : List Int) : lebTake ((sectB id n body).take (sectB id n body).length) ((0 + 1 : Nat) : Int) = (((n : Nat) : Int), ((1 + (lebPut (n : Int)).length : Nat) : Int), 0) := by
  rw [List.take_length]
  have := lebTake_put (n : Int) (u64B_iff.2 ⟨by omega, by omega⟩) [id] body
  simp only [List.length_cons, List.length_nil] at this
  unfold sectB
  rw [this]
  simp
theorem sectB_cut (id : Int) (n : Nat) (body : List Int) (k : Nat) (hk : body.length = k) : cutN (sectB id n body) (1 + (lebPut (n : Int)).length) k = body := by
  unfold cutN sectB
  rw [List.take_of_length_le (by simp; omega), List.append_assoc, ← List.append_assoc, List.drop_left' (by simp; omega)]
theorem sumBytes_inj {s t : Int} (hs : 0 ≤ s ∧ s < 4294967296) (ht : 0 ≤ t ∧ t < 4294967296) (h : sumBytes s = sumBytes t) : s = t := by
  simp [sumBytes] at h
  omega
theorem openL_other (b s : List Int) (h : crcSum b ≠ crcSum s) : (openL (b ++ sumBytes (crcSum s))).2 = 4 := by
  have hl : (b ++ sumBytes (crcSum s)).length = b.length + 4 := by simp [sumBytes]
  unfold openL
  rw [if_neg (by omega), hl, Nat.add_sub_cancel, List.drop_left, List.take_left, if_neg (fun e => h (sumBytes_inj (crcSum_range _) (crcSum_range _) e).symm)]
theorem sectW_set (id : Int) (l : List Int) (j : Nat) (y : Int) (hj : j < l.length) : (sectW id l).set (1 + (lebPut (l.length : Int)).length + j) y = sectB id l.length (l.set j y ++ sumBytes (crcSum l)) := by
  unfold sectW sectB sealL
  rw [List.set_append_right _ _ (by simp; omega), List.set_append_left _ _ (by simp; omega)]
  congr 3
  simp
  omega
theorem sectW_getD (id : Int) (l : List Int) (j : Nat) (hj : j < l.length) : (sectW id l).getD (1 + (lebPut (l.length : Int)).length + j) 0 = l.getD j 0 := by
  have h1 : ([id] ++ lebPut (l.length : Int)).length ≤ 1 + (lebPut (l.length : Int)).length + j := by simp; omega
  have h2 : 1 + (lebPut (l.length : Int)).length + j - ([id] ++ lebPut (l.length : Int)).length = j := by simp; omega
  unfold sectW sealL
  rw [List.getD_eq_getElem?_getD, List.getD_eq_getElem?_getD, List.getElem?_append_right h1, h2, List.getElem?_append_left hj]
theorem sectB_bytes {id : Int} (hid : byteB id = true) (n : Nat) {body : List Int} (hb : body.all byteB = true) : (sectB id n body).all byteB = true := by
  unfold sectB
  rw [List.all_append, List.all_append, hb, Bool.and_true]
  have h1 : (lebPut (n : Int)).all byteB = true := lebPut_bytes (n : Int)
  rw [h1]
  simp [hid]
theorem fault_eq (a b a' b' : Int) (w : World) : (binOp .eql 31 (.agg #[.int .i64 a, .int .i64 b]) (.agg #[.int .i64 a', .int .i64 b'])).run Tryd.prog w = .ok (.bool ((a == a') && (b == b'))) w := by
  have h : (Op.equalIn 10000 31 (.agg #[.int .i64 a, .int .i64 b]) (.agg #[.int .i64 a', .int .i64 b'])).run Tryd.prog w = .ok ((a == a') && (b == b')) w := by
    refine eqA_of (d := 9999) Tryd.underlying31 (by kernel_rfl) ?_
    refine eqf_cons rfl (run_part_plain w (by kernel_rfl) rfl) (run_part_plain w (by kernel_rfl) rfl) (run_equalIn_int w 9998 29 .i64 .i64 a a' Tryd.underlying29) ?_
    exact eqf_last rfl (run_part_plain w (by kernel_rfl) rfl) (run_part_plain w (by kernel_rfl) rfl) (run_equalIn_int w 9998 3 .i64 .i64 b b' Tryd.underlying3)
  rw [run_eql_struct, h]
  rfl
end Go.Proofs.YtmlbfepibfobaaaDoor.Hand
end

section
namespace Go.Proofs.YtmlbfepibfobaaaDoor.Hand
open Go.RowKit Go.Proofs.YtmlbfepibfobaaaDoorW.PrintWords Go.Proofs.YtmlbfepibfobaaaDoorW.PrintLast Go.Proofs.YtmlbfepibfobaaaDoorW.PrintMore
set_option linter.unusedVariables false
/-! A list of reads: its structs, in the print's form. -/
structure SRead where
  f0 : Int
  f1 : Int
def zRead : SRead := ⟨(0 : Int), (0 : Int)⟩
def kRead : Kd SRead := Kd.iso (Kd.pair (Kd.int .i64) (Kd.int .i64)) (fun x : SRead => (x.f0, x.f1))
theorem kRead_open {w : World} {x : SRead} {cs : List Value} (h : kRead.K w x cs) : cs = [.int .i64 x.f0, .int .i64 x.f1] := by
  obtain ⟨_, _, rfl, rfl, rfl⟩ := h
  exact rfl
theorem kRead_mk (w : World) (x : SRead)  : kRead.K w x [.int .i64 x.f0, .int .i64 x.f1] := ⟨[.int .i64 x.f0], [.int .i64 x.f1], rfl, rfl, rfl⟩
def rdRead (xs : List SRead) (i : Int) : SRead := xs.getD i.toNat zRead
theorem atRead {w : World} {A : Option Addr} {n : Nat} {xs : List SRead} (h : Kd.C kRead w A n xs) (i : Int) (h0 : 0 ≤ i) (h1 : i < n) : ∃ ad , A = some ad ∧ w.cell? (ad.add (i.toNat * 2)) = some (.int .i64 (rdRead xs i).f0) ∧ w.cell? ⟨(ad.add (i.toNat * 2)).block, (ad.add (i.toNat * 2)).off + 1, none⟩ = some (.int .i64 (rdRead xs i).f1) := by
  obtain ⟨ad, c, e, _, hK, hc0⟩ := Kd.C_get h zRead i h0 h1
  have hc : ∀ j u, c[j]? = some u → w.cell? (ad.add (i.toNat * 2 + j)) = some u := hc0
  obtain rfl := kRead_open hK
  exact ⟨ad, e, hc 0 _ rfl, by rw [← add_field _ _ 1 (by omega)]; exact hc 1 _ rfl⟩
end Go.Proofs.YtmlbfepibfobaaaDoor.Hand
end
