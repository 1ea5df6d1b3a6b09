import Derived.Test.YtjlmliagkfjcgaaDoorProg
import Derived.Below
import Derived.Deep.Draws
import Derived.Deep.AppendLies
import Derived.Maps.AppendAt
import Derived.OwnWalk
import Derived.Laws.BytesArg
import Derived.Laws.MakeOwn
import Derived.Laws.OwnMore
import Derived.Deep.OwnRows
import Derived.Tactics
import Derived.Lib.ConvBytes
import Derived.Laws.Slices
import Derived.WalkKit
import Derived.KernelRfl
import Derived.RowKit3
import Derived.Deep.LoopGhost
import Derived.Deep.QuietTactic
import Derived.BigQuiet
import Derived.WideLaws
import Derived.Deep.DeepCutAuto
import Derived.Deep.CutBlock
import Derived.Deep.RegionHeld3
import Derived.Laws.Rows
import Derived.Lib.AppendStr
import Derived.ArgAppend
import Derived.Laws.IdiomCopy
import Derived.OrdersHeld
import Derived.Laws.BitsLemmas
import Derived.RowKit
import Derived.Lib.Hide
import Derived.Laws.CopyOwn
import Derived.Test.YtjlmliagkfjcgaaDoorWWords
import Derived.Test.YtjlmliagkfjcgaaDoorWLast
import Derived.Test.YtjlmliagkfjcgaaDoorWTab
import Derived.Test.YtjlmliagkfjcgaaDoorWFour
import Derived.Test.YtjlmliagkfjcgaaDoorWQPut
import Derived.Test.YtjlmliagkfjcgaaDoorWApart
import Derived.Test.YtjlmliagkfjcgaaDoorWArr
import Derived.Test.YtjlmliagkfjcgaaDoorWZeros
import Derived.Test.YtjlmliagkfjcgaaDoorWFoot
import Derived.Test.YtjlmliagkfjcgaaDoorWKept
import Derived.Test.YtjlmliagkfjcgaaDoorWShare
import Derived.Test.YtjlmliagkfjcgaaDoorWN
import Derived.Test.YtjlmliagkfjcgaaDoorWFootNe
import Derived.Test.YtjlmliagkfjcgaaDoorWAt
import Derived.Test.YtjlmliagkfjcgaaDoorWEqStruct
import Derived.Test.YtjlmliagkfjcgaaDoorWRepsOne
import Derived.Test.YtjlmliagkfjcgaaDoorWInv
import Derived.Test.YtjlmliagkfjcgaaDoorWInvWords
import Derived.Test.YtjlmliagkfjcgaaDoorWGuard
import Derived.Test.YtjlmliagkfjcgaaDoorWNEv
import Derived.Test.YtjlmliagkfjcgaaDoorWMore
namespace Go.Proofs.YtjlmliagkfjcgaaDoor.Hand
open Go.RowKit Go.Proofs.YtjlmliagkfjcgaaDoorW.PrintWords Go.Proofs.YtjlmliagkfjcgaaDoorW.PrintLast Go.Proofs.YtjlmliagkfjcgaaDoorW.PrintMore
set_option linter.unusedVariables false
set_option linter.unusedSimpArgs false

/-- The first i bytes of a number, none the last one. -/
def lebHead (n : Int) : Nat → List Int
  | 0 => []
  | i + 1 => lebHead n i ++ [n / 128 ^ i % 128 + 128]
/-- A number's bytes, if they are at most i + 1 and the first ones are given: fuel counts down. -/
def lebTail : Nat → Int → List Int
  | 0, _ => []
  | f + 1, m => if m / 128 = 0 then [m % 128] else (m % 128 + 128) :: lebTail f (m / 128)
/-- leb.Put. -/
def lebPut (n : Int) : List Int := lebTail 10 n
def leb_Put.f (a0 : Int) : Option (List Int) := if 0 ≤ a0 then (if a0 < 18446744073709551616 then some (lebPut a0) else none) else none

theorem u8_or128 (m : Int) : Go.bits .or .u8 (m % 256) 128 = m % 128 + 128 := by
  have h : ∀ x : Fin 256, Go.bits .or .u8 ((x.val : Int)) 128 = (x.val : Int) % 128 + 128 := by decide +kernel
  obtain ⟨a, ha⟩ := Int.eq_ofNat_of_zero_le (Int.emod_nonneg m (by decide : (256 : Int) ≠ 0))
  have hl : a < 256 := by have := Int.emod_lt_of_pos m (by decide : (0 : Int) < 256); omega
  rw [ha, h ⟨a, hl⟩]
  show (a : Int) % 128 + 128 = _
  omega
theorem u8_andNot128 (m : Int) : Go.bits .andNot .u8 (m % 128 + 128) 128 = m % 128 := by
  have h : ∀ x : Fin 128, Go.bits .andNot .u8 ((x.val : Int) + 128) 128 = (x.val : Int) := by decide +kernel
  obtain ⟨a, ha⟩ := Int.eq_ofNat_of_zero_le (Int.emod_nonneg m (by decide : (128 : Int) ≠ 0))
  have hl : a < 128 := by have := Int.emod_lt_of_pos m (by decide : (0 : Int) < 128); omega
  rw [ha]
  exact h ⟨a, hl⟩

theorem lebHead_length (n : Int) : ∀ i, (lebHead n i).length = i
  | 0 => rfl
  | i + 1 => by simp [lebHead, lebHead_length n i]

theorem ediv_pow (n : Int) (i : Nat) : n / 128 ^ i / 128 = n / 128 ^ (i + 1) := by
  rw [Int.pow_succ, Int.ediv_ediv_of_nonneg (Int.pow_nonneg (by decide))]

/-- What the head and the tail are together does not depend on where they part. -/
theorem leb_parts (n : Int) : ∀ i f, (∀ j, j < i → n / 128 ^ (j + 1) ≠ 0) → lebHead n i ++ lebTail f (n / 128 ^ i) = lebTail (i + f) n
  | 0, f, _ => by simp [lebHead]
  | i + 1, f, h => by
    have ih := leb_parts n i (f + 1) (fun j hj => h j (by omega))
    rw [show i + 1 + f = i + (f + 1) from by omega, ← ih]
    have h1 := h i (by omega)
    simp only [lebHead, lebTail, ediv_pow, if_neg h1, List.append_assoc, List.cons_append, List.nil_append]

/-- At a loop's head: i bytes are put. -/
def putRel (n : Int) (w : World) (v0 v4 v7 : Value) (wr : World) : Prop :=
  ∃ (i : Nat) (m : Int) (cs : List Int), v7 = .int .i64 i ∧ v4 = .int .i64 i ∧ v0 = .int .u64 m ∧ i ≤ 10 ∧ cs.length = 10 ∧ Aside0 (m = n / 128 ^ i ∧ (∀ j, j < i → n / 128 ^ (j + 1) ≠ 0) ∧ cs.take i = lebHead n i) ∧ Aside0 (wr.heap[w.heap.size]? = some (.cells ((nums .u8 cs).toArray) 144 (0, 0))) ∧ Aside0 (Below w.heap.size w wr)

theorem take_set_succ {cs : List Int} {i : Nat} (h : i < cs.length) (x : Int) : (cs.set i x).take (i + 1) = cs.take i ++ [x] := by
  rw [List.take_succ_eq_append_getElem (by simpa using h)]
  simp [List.take_set_of_le]

theorem nums_set (k : IntKind) (cs : List Int) (i : Nat) (x : Int) : ((nums k cs).toArray).setIfInBounds i (.int k x) = (nums k (cs.set i x)).toArray := by
  simp [nums, List.map_set]

theorem nums_cell {W : World} {g : Nat} {k : IntKind} {t : TypeId} {cs : List Int} (h : W.heap[g]? = some (.cells ((nums k cs).toArray) t (0, 0))) {i : Nat} (hi : i < cs.length) : W.cell? ⟨g, i, none⟩ = some (.int k (cs.getD i 0)) := by
  rw [blk_cell h]
  simp [nums, List.getElem?_eq_getElem hi, List.getD]

theorem own_full {W : World} {base e g n : Nat} {xs : List Value} (h : W.ownsRow base e 1 (.slice (some ⟨g, 0, none⟩) n n) n xs) : W.heap[g]? = some (.cells xs.toArray e (0, 0)) ∧ xs.length = n := by
  obtain ⟨h1, h2⟩ := h
  rcases h2 with ⟨h2, _⟩ | ⟨g', cap, cur, he, _, hh, _, _, hs, ht⟩
  · cases h2
  · cases he
    rw [Nat.mul_one] at h1 hs ht
    rw [List.take_of_length_le (by simp [hs])] at ht
    exact ⟨by rw [hh, ← ht], h1⟩
theorem full_own {W : World} {base e g n : Nat} {xs : List Value} (h : W.heap[g]? = some (.cells xs.toArray e (0, 0))) (hn : xs.length = n) (hb : base ≤ g) (hm : n ≤ maxLen) : W.ownsRow base e 1 (.slice (some ⟨g, 0, none⟩) n n) n xs :=
  ⟨by omega, .inr ⟨g, n, xs.toArray, rfl, hb, h, Nat.le_refl _, hm, by simp [hn], by simp [← hn]⟩⟩

theorem take_cells {W : World} {g : Nat} {k : IntKind} {t : TypeId} {cs : List Int} {n : Nat} (h : W.heap[g]? = some (.cells ((nums k cs).toArray) t (0, 0))) : ∀ (j : Nat) v, ((nums k cs).take n)[j]? = some v → W.cell? ((⟨g, 0, none⟩ : Addr).add j) = some v := by
  intro j v hv
  rw [List.getElem?_take] at hv
  split at hv
  · have e : (⟨g, 0, none⟩ : Addr).add j = ⟨g, j, none⟩ := by simp [Addr.add]; intro h0; exact h0.symm
    rw [e, blk_cell h]
    simpa using hv
  · cases hv
theorem nums_one {k : IntKind} {cs : List Int} (n : Nat) : ∀ v ∈ (nums k cs).take n, v.oneCell' = true := by
  intro v hv
  obtain ⟨x, _, rfl⟩ := List.mem_map.1 (List.mem_of_mem_take hv)
  rfl

theorem leb_last (a0 : Int) (i : Nat) (m : Int) (cs : List Int) (hcs : cs.length = 10) (hi : i < 10) (hm : m = a0 / 128 ^ i) (hn : ∀ j, j < i → a0 / 128 ^ (j + 1) ≠ 0) (ht : cs.take i = lebHead a0 i) (hq : m / 128 = 0) : lebPut a0 = (((cs.set i (m % 128 + 128)).set i (m % 128))).take (i + 1) := by
  rw [List.set_set, take_set_succ (by omega), ht]
  obtain ⟨f, hf⟩ : ∃ f, 10 = i + (f + 1) := ⟨9 - i, by omega⟩
  unfold lebPut
  rw [hf, ← leb_parts a0 i (f + 1) hn, ← hm, lebTail, if_pos hq]

theorem leb_info : (Tryd.prog.info? 5).map (fun i => (i.zero, i.size, i.bytes)) = some (some (.int .u8 0), 1, 1) := by kernel_rfl

theorem div_pow_zero (n : Int) (h0 : 0 ≤ n) (h1 : n < 18446744073709551616) : n / 128 ^ 10 = 0 := by
  apply Int.ediv_eq_zero_of_lt h0
  have : (128 : Int) ^ 10 = 1180591620717411303424 := by decide
  omega

theorem leb_Put_some {a0 : Int} {r : List Int} (h : leb_Put.f a0 = some r) : 0 ≤ a0 ∧ a0 < 18446744073709551616 ∧ r = lebPut a0 := by
  unfold leb_Put.f at h
  split at h
  · split at h
    · exact ⟨by assumption, by assumption, (Option.some.inj h).symm⟩
    · cases h
  · cases h

set_option maxHeartbeats 8000000 in
set_option maxRecDepth 100000 in
theorem leb_Put.calls (a0 : Int) (r : List Int) (w : World) (h : leb_Put.f a0 = some r) :
    Calls Tryd.prog 90 #[.int .u64 a0] w fun e w' => ∃ v0_ : Value, e = .returned (v0_) ∧ Kd.R (Kd.int .u8) 5 w' w.heap.size (fun _ => True) v0_ r ∧ Below w.heap.size w w' := by
  obtain ⟨h0, h1, rfl⟩ := leb_Put_some h
  clear h
  have hz := Lib.hid (div_pow_zero a0 h0 h1)
  have H0 := Lib.hid h0
  clear h0 h1
  obtain ⟨i0, hi0, hz0, hz1, hz2⟩ := info_parts leb_info
  go_enter Tryd.func90, Tryd.ntmps90
  go_wp2
  go_loopw [0, 4, 7] (fun v0 v4 v7 wr => putRel a0 w v0 v4 v7 wr) (fun _ _ v7 _ => 10 - (intOf v7).toNat)
  case atStart =>
    exact ⟨0, a0, List.replicate 10 0, rfl, rfl, rfl, by omega, rfl, ⟨by simp, fun j hj => absurd hj (by omega), rfl⟩, ⟨by rw [blk_new]; rfl⟩, ⟨below_alloc (Below.refl _ _) _⟩⟩
  case round =>
    obtain ⟨i, m, cs, rfl, rfl, rfl, hi, hcs, HA, HC, HB⟩ := hrel
    by_cases hlt : i < 10
    · have hc := nums_cell HC.out (i := i) (by omega)
      have hf := blk_frozen HC.out i
      have HE := Lib.hid (ediv_pow a0 i)
      have hm : 0 ≤ m := by rw [HA.out.1]; exact Int.ediv_nonneg H0.out (Int.pow_nonneg (by decide))
      have HCS := Lib.hid hcs
      clear hcs
      have o1 := u8_or128 m
      have o2 := u8_andNot128 m
      have hdec : i + 1 ≤ 10 := hlt
      by_cases hq : m / 128 = 0
      · have hq1 : (m / 128 == 0) = true := beq_iff_eq.mpr hq
        have HQ := Lib.hid hq
        clear hq
        have hal : Tryd.prog.arrayLen 144 = 10 := by kernel_rfl
        have hsl : ∀ W, (Instr.sliceAt 144 (.pointer (some ⟨w.heap.size, 0, none⟩)) none (some (.int .i64 ((i : Int) + 1))) none).run Tryd.prog W = .ok (.slice (some ⟨w.heap.size, 0, none⟩) (i + 1) 10) W := fun W => by
          rw [run_sliceAt_array_h W 144 ⟨w.heap.size, 0, none⟩ (by kernel_rfl) .i64 ((i : Int) + 1) (by omega) (by rw [hal]; omega), hal]
          go_simp
        have hC1 := (nums_set .u8 (cs.set i (m % 128 + 128)) i (m % 128)) ▸ blk_set ((nums_set .u8 cs i (m % 128 + 128)) ▸ blk_set HC.out i (.int .u8 (m % 128 + 128))) i (.int .u8 (m % 128))
        have HC1 := Lib.hid hC1
        have HB1 := Lib.hid (below_set (j := i) (v := .int .u8 (m % 128)) (below_set (j := i) (v := .int .u8 (m % 128 + 128)) HB.out (Nat.le_refl _)) (Nat.le_refl _))
        have hsz1 := blk_lt HC.out
        clear hal hC1
        have hlen : ((cs.set i (m % 128 + 128)).set i (m % 128)).length = 10 := by rw [List.length_set, List.length_set]; exact HCS.out
        have HLEN := Lib.hid hlen
        clear hlen
        go_wp2_with (first | (at_make; refine wpList_make_full _ rfl (.tmp 27) (.tmp 27) 23 rfl (w.heap.size + 1) 5 i0 (.int .u8 0) 1 Tryd.underlying23 hi0 hz0 hz1 .i64 .i64 _ _ (i + 1) rfl rfl (by simp) (by simp) ?c1 ?c2 ?c3 ?_; (case c1 => exact (by rw [hz2]; omega)); (case c2 => exact (by unfold maxLen; omega)); (case c3 => exact (by simp; omega)); intro w2 hown hgrow; have HO := Lib.hid (own_full (g := wr.heap.size) (by simpa using hown)); have HC2 := Lib.hid (blk_grown HC1.out hgrow (by simp)); have HB2 := Lib.hid (HB1.out.grown hgrow (by simp; omega) (fun k e => by cases e)); clear hown hgrow) | (with_reducible refine wpList_copy_splice rfl (.tmp 29) (.tmp 31) 23 23 rfl 5 Tryd.underlying23 (by rw [hi0]; simp [hz1]) (some ⟨wr.heap.size, 0, none⟩) (some ⟨w.heap.size, 0, none⟩) (i + 1) (i + 1) (i + 1) 10 rfl rfl wr.heap.size 0 _ 5 HO.out.1 ((nums .u8 ((cs.set i (m % 128 + 128)).set i (m % 128))).take (i + 1)) ?d1 ?d2 ?d3 ?d4 w.heap.size w HB2.out ?d5 ?_; (case d1 => exact (by simp [nums, HCS.out]; omega)); (case d2 => exact (fun _ => ⟨rfl, _, rfl, take_cells HC2.out⟩)); (case d3 => exact (by rw [HO.out.2]; simp [nums]; omega)); (case d4 => exact (nums_one _)); (case d5 => exact (by omega)); intro w3 HG hB3; have HB3 := Lib.hid hB3; clear hB3))
        go_ret
        have hfin := leb_last a0 i m cs HCS.out hlt HA.out.1 HA.out.2.1 HA.out.2.2 HQ.out
        refine ⟨.slice (some ⟨wr.heap.size, 0, none⟩) (i + 1) (i + 1), rfl, Kd.R_of_own ?_ (fun _ _ => trivial), HB3.out⟩
        have hl : (lebPut a0).length = i + 1 := by rw [hfin]; simp [HCS.out]; omega
        have hz3 : splice (madeCells (Value.int .u8 0).cells (i + 1)).toList 0 ((nums .u8 ((cs.set i (m % 128 + 128)).set i (m % 128))).take (i + 1)) = nums .u8 (lebPut a0) := by
          have e1 := HO.out.2
          have e2 : ((nums .u8 ((cs.set i (m % 128 + 128)).set i (m % 128))).take (i + 1)).length = i + 1 := by simp [nums, HCS.out]; omega
          have e3 : ((nums .u8 ((cs.set i (m % 128 + 128)).set i (m % 128))).take (i + 1)) = nums .u8 (lebPut a0) := by rw [hfin, nums, nums, List.map_take]
          unfold splice
          rw [e2, List.take_zero, List.nil_append, List.drop_of_length_le (by omega), List.append_nil, e3]
        rw [hz3] at HG
        rw [hl]
        have hl2 : (nums .u8 (lebPut a0)).length = i + 1 := by simp [nums, hl]
        exact full_own HG.out hl2 (by omega) (by unfold maxLen; omega)
      · have hq1 : (m / 128 == 0) = false := beq_eq_false_iff_ne.mpr hq
        have HQ := Lib.hid hq
        clear hq
        have hC1 := (nums_set .u8 cs i (m % 128 + 128)) ▸ blk_set HC.out i (.int .u8 (m % 128 + 128))
        have HC1 := Lib.hid hC1
        have HB1 := Lib.hid (below_set (j := i) (v := .int .u8 (m % 128 + 128)) HB.out (Nat.le_refl _))
        clear hC1
        go_wp2
        go_roundw
        case measure => simp [intOf]; omega
        case rel =>
          have hA := HA.out
          have hcs := HCS.out
          refine ⟨i + 1, m / 128, cs.set i (m % 128 + 128), by go_num, by go_num, rfl, by omega, by rw [List.length_set]; exact hcs, ⟨?_, ?_, ?_⟩, ⟨HC1.out⟩, ⟨HB1.out⟩⟩
          · rw [← HE.out, hA.1]
          · intro j hj
            by_cases e : j = i
            · subst e
              have := HQ.out
              rw [hA.1, HE.out] at this
              exact this
            · exact hA.2.1 j (by omega)
          · rw [take_set_succ (by omega), hA.2.2, lebHead, hA.1]
    · exact absurd hz.out (HA.out.2.1 9 (by omega))
end Go.Proofs.YtjlmliagkfjcgaaDoor.Hand
