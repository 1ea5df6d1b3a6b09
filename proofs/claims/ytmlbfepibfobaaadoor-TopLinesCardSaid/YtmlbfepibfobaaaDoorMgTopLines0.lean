import Derived.Test.YtmlbfepibfobaaaDoorRows
import Derived.ProofKit
import Derived.JoinedCond
import Derived.KernelRfl
import Derived.Test.YtmlbfepibfobaaaDoorProg
import Derived.Below
import Derived.Deep.Draws
import Derived.Deep.AppendLies
import Derived.Maps.AppendAt
import Derived.OwnWalk
import Derived.Laws.BytesArg
import Derived.Laws.MakeOwn
import Derived.Laws.OwnMore
import Derived.Deep.OwnRows
import Derived.Tactics
import Derived.Lib.ConvBytes
import Derived.Laws.Slices
import Derived.WalkKit
import Derived.RowKit3
import Derived.Deep.LoopGhost
import Derived.Deep.QuietTactic
import Derived.BigQuiet
import Derived.WideLaws
import Derived.Deep.DeepCutAuto
import Derived.Deep.CutBlock
import Derived.Deep.RegionHeld3
import Derived.Laws.Rows
import Derived.Lib.AppendStr
import Derived.ArgAppend
import Derived.Laws.IdiomCopy
import Derived.OrdersHeld
import Derived.Laws.BitsLemmas
import Derived.RowKit
import Derived.Lib.Hide
import Derived.Laws.CopyOwn
import Derived.Test.YtmlbfepibfobaaaDoorWWords
import Derived.Test.YtmlbfepibfobaaaDoorWLast
import Derived.Test.YtmlbfepibfobaaaDoorWTab
import Derived.Test.YtmlbfepibfobaaaDoorWFour
import Derived.Test.YtmlbfepibfobaaaDoorWQPut
import Derived.Test.YtmlbfepibfobaaaDoorWApart
import Derived.Test.YtmlbfepibfobaaaDoorWArr
import Derived.Test.YtmlbfepibfobaaaDoorWZeros
import Derived.Test.YtmlbfepibfobaaaDoorWFoot
import Derived.Test.YtmlbfepibfobaaaDoorWKept
import Derived.Test.YtmlbfepibfobaaaDoorWShare
import Derived.Test.YtmlbfepibfobaaaDoorWN
import Derived.Test.YtmlbfepibfobaaaDoorWFootNe
import Derived.Test.YtmlbfepibfobaaaDoorWAt
import Derived.Test.YtmlbfepibfobaaaDoorWEqStruct
import Derived.Test.YtmlbfepibfobaaaDoorWRepsOne
import Derived.Test.YtmlbfepibfobaaaDoorWInv
import Derived.Test.YtmlbfepibfobaaaDoorWInvWords
import Derived.Test.YtmlbfepibfobaaaDoorWGuard
import Derived.Test.YtmlbfepibfobaaaDoorWNEv
import Derived.Test.YtmlbfepibfobaaaDoorWMore
import Derived.WalkSpells
import Derived.ChangeKeysEq
import Derived.Laws.Cover3
import Derived.Recover
import Derived.Defers
import Derived.Laws.Pointers
import Derived.BigRegionIn
import Derived.WalkSmall
import Derived.RangeFuncBox
import Derived.IntWalk
section
/- What each row asks of the whole program, told once. -/
namespace Go.Proofs.YtmlbfepibfobaaaDoor.Hand
theorem seat_mayEnter : Tryd.prog.mayEnter = true := by kernel_rfl
theorem seat_lifts : Tryd.prog.liftsFinal = false := by kernel_rfl
theorem seat_make : Tryd.prog.make = some .cut := by kernel_rfl
end Go.Proofs.YtmlbfepibfobaaaDoor.Hand
end

section
namespace Go.Proofs.YtmlbfepibfobaaaDoor.Hand
open Go.RowKit Go.Proofs.YtmlbfepibfobaaaDoorW.PrintWords Go.Proofs.YtmlbfepibfobaaaDoorW.PrintLast Go.Proofs.YtmlbfepibfobaaaDoorW.PrintMore
set_option linter.unusedVariables false
set_option linter.unusedSimpArgs false

/-- The first i bytes of a number, none the last one. -/
def lebHead (n : Int) : Nat → List Int
  | 0 => []
  | i + 1 => lebHead n i ++ [n / 128 ^ i % 128 + 128]
/-- A number's bytes, if they are at most i + 1 and the first ones are given: fuel counts down. -/
def lebTail : Nat → Int → List Int
  | 0, _ => []
  | f + 1, m => if m / 128 = 0 then [m % 128] else (m % 128 + 128) :: lebTail f (m / 128)
/-- leb.Put. -/
def lebPut (n : Int) : List Int := lebTail 10 n
def leb_Put.f (a0 : Int) : Option (List Int) := if 0 ≤ a0 then (if a0 < 18446744073709551616 then some (lebPut a0) else none) else none

theorem u8_or128 (m : Int) : Go.bits .or .u8 (m % 256) 128 = m % 128 + 128 := by
  have h : ∀ x : Fin 256, Go.bits .or .u8 ((x.val : Int)) 128 = (x.val : Int) % 128 + 128 := by decide +kernel
  obtain ⟨a, ha⟩ := Int.eq_ofNat_of_zero_le (Int.emod_nonneg m (by decide : (256 : Int) ≠ 0))
  have hl : a < 256 := by have := Int.emod_lt_of_pos m (by decide : (0 : Int) < 256); omega
  rw [ha, h ⟨a, hl⟩]
  show (a : Int) % 128 + 128 = _
  omega
theorem u8_andNot128 (m : Int) : Go.bits .andNot .u8 (m % 128 + 128) 128 = m % 128 := by
  have h : ∀ x : Fin 128, Go.bits .andNot .u8 ((x.val : Int) + 128) 128 = (x.val : Int) := by decide +kernel
  obtain ⟨a, ha⟩ := Int.eq_ofNat_of_zero_le (Int.emod_nonneg m (by decide : (128 : Int) ≠ 0))
  have hl : a < 128 := by have := Int.emod_lt_of_pos m (by decide : (0 : Int) < 128); omega
  rw [ha]
  exact h ⟨a, hl⟩

theorem lebHead_length (n : Int) : ∀ i, (lebHead n i).length = i
  | 0 => rfl
  | i + 1 => by simp [lebHead, lebHead_length n i]

theorem ediv_pow (n : Int) (i : Nat) : n / 128 ^ i / 128 = n / 128 ^ (i + 1) := by
  rw [Int.pow_succ, Int.ediv_ediv_of_nonneg (Int.pow_nonneg (by decide))]

/-- What the head and the tail are together does not depend on where they part. -/
theorem leb_parts (n : Int) : ∀ i f, (∀ j, j < i → n / 128 ^ (j + 1) ≠ 0) → lebHead n i ++ lebTail f (n / 128 ^ i) = lebTail (i + f) n
  | 0, f, _ => by simp [lebHead]
  | i + 1, f, h => by
    have ih := leb_parts n i (f + 1) (fun j hj => h j (by omega))
    rw [show i + 1 + f = i + (f + 1) from by omega, ← ih]
    have h1 := h i (by omega)
    simp only [lebHead, lebTail, ediv_pow, if_neg h1, List.append_assoc, List.cons_append, List.nil_append]

/-- At a loop's head: i bytes are put. -/
def putRel (n : Int) (w : World) (v0 v4 v7 : Value) (wr : World) : Prop :=
  ∃ (i : Nat) (m : Int) (cs : List Int), v7 = .int .i64 i ∧ v4 = .int .i64 i ∧ v0 = .int .u64 m ∧ i ≤ 10 ∧ cs.length = 10 ∧ Aside0 (m = n / 128 ^ i ∧ (∀ j, j < i → n / 128 ^ (j + 1) ≠ 0) ∧ cs.take i = lebHead n i) ∧ Aside0 (wr.heap[w.heap.size]? = some (.cells ((nums .u8 cs).toArray) 123 (0, 0))) ∧ Aside0 (Below w.heap.size w wr)

theorem take_set_succ {cs : List Int} {i : Nat} (h : i < cs.length) (x : Int) : (cs.set i x).take (i + 1) = cs.take i ++ [x] := by
  rw [List.take_succ_eq_append_getElem (by simpa using h)]
  simp [List.take_set_of_le]

theorem nums_set (k : IntKind) (cs : List Int) (i : Nat) (x : Int) : ((nums k cs).toArray).setIfInBounds i (.int k x) = (nums k (cs.set i x)).toArray := by
  simp [nums, List.map_set]

theorem nums_cell {W : World} {g : Nat} {k : IntKind} {t : TypeId} {cs : List Int} (h : W.heap[g]? = some (.cells ((nums k cs).toArray) t (0, 0))) {i : Nat} (hi : i < cs.length) : W.cell? ⟨g, i, none⟩ = some (.int k (cs.getD i 0)) := by
  rw [blk_cell h]
  simp [nums, List.getElem?_eq_getElem hi, List.getD]

theorem own_full {W : World} {base e g n : Nat} {xs : List Value} (h : W.ownsRow base e 1 (.slice (some ⟨g, 0, none⟩) n n) n xs) : W.heap[g]? = some (.cells xs.toArray e (0, 0)) ∧ xs.length = n := by
  obtain ⟨h1, h2⟩ := h
  rcases h2 with ⟨h2, _⟩ | ⟨g', cap, cur, he, _, hh, _, _, hs, ht⟩
  · cases h2
  · cases he
    rw [Nat.mul_one] at h1 hs ht
    rw [List.take_of_length_le (by simp [hs])] at ht
    exact ⟨by rw [hh, ← ht], h1⟩
theorem full_own {W : World} {base e g n : Nat} {xs : List Value} (h : W.heap[g]? = some (.cells xs.toArray e (0, 0))) (hn : xs.length = n) (hb : base ≤ g) (hm : n ≤ maxLen) : W.ownsRow base e 1 (.slice (some ⟨g, 0, none⟩) n n) n xs :=
  ⟨by omega, .inr ⟨g, n, xs.toArray, rfl, hb, h, Nat.le_refl _, hm, by simp [hn], by simp [← hn]⟩⟩

theorem take_cells {W : World} {g : Nat} {k : IntKind} {t : TypeId} {cs : List Int} {n : Nat} (h : W.heap[g]? = some (.cells ((nums k cs).toArray) t (0, 0))) : ∀ (j : Nat) v, ((nums k cs).take n)[j]? = some v → W.cell? ((⟨g, 0, none⟩ : Addr).add j) = some v := by
  intro j v hv
  rw [List.getElem?_take] at hv
  split at hv
  · have e : (⟨g, 0, none⟩ : Addr).add j = ⟨g, j, none⟩ := by simp [Addr.add]; intro h0; exact h0.symm
    rw [e, blk_cell h]
    simpa using hv
  · cases hv
theorem nums_one {k : IntKind} {cs : List Int} (n : Nat) : ∀ v ∈ (nums k cs).take n, v.oneCell' = true := by
  intro v hv
  obtain ⟨x, _, rfl⟩ := List.mem_map.1 (List.mem_of_mem_take hv)
  rfl

theorem leb_last (a0 : Int) (i : Nat) (m : Int) (cs : List Int) (hcs : cs.length = 10) (hi : i < 10) (hm : m = a0 / 128 ^ i) (hn : ∀ j, j < i → a0 / 128 ^ (j + 1) ≠ 0) (ht : cs.take i = lebHead a0 i) (hq : m / 128 = 0) : lebPut a0 = (((cs.set i (m % 128 + 128)).set i (m % 128))).take (i + 1) := by
  rw [List.set_set, take_set_succ (by omega), ht]
  obtain ⟨f, hf⟩ : ∃ f, 10 = i + (f + 1) := ⟨9 - i, by omega⟩
  unfold lebPut
  rw [hf, ← leb_parts a0 i (f + 1) hn, ← hm, lebTail, if_pos hq]

theorem leb_info : (Tryd.prog.info? 5).map (fun i => (i.zero, i.size, i.bytes)) = some (some (.int .u8 0), 1, 1) := by kernel_rfl

theorem div_pow_zero (n : Int) (h0 : 0 ≤ n) (h1 : n < 18446744073709551616) : n / 128 ^ 10 = 0 := by
  apply Int.ediv_eq_zero_of_lt h0
  have : (128 : Int) ^ 10 = 1180591620717411303424 := by decide
  omega

theorem leb_Put_some {a0 : Int} {r : List Int} (h : leb_Put.f a0 = some r) : 0 ≤ a0 ∧ a0 < 18446744073709551616 ∧ r = lebPut a0 := by
  unfold leb_Put.f at h
  split at h
  · split at h
    · exact ⟨by assumption, by assumption, (Option.some.inj h).symm⟩
    · cases h
  · cases h

set_option maxHeartbeats 8000000 in
set_option maxRecDepth 100000 in
theorem leb_Put.calls (a0 : Int) (r : List Int) (w : World) (h : leb_Put.f a0 = some r) :
    Calls Tryd.prog 68 #[.int .u64 a0] w fun e w' => ∃ v0_ : Value, e = .returned (v0_) ∧ Kd.R (Kd.int .u8) 5 w' w.heap.size (fun _ => True) v0_ r ∧ Below w.heap.size w w' := by
  obtain ⟨h0, h1, rfl⟩ := leb_Put_some h
  clear h
  have hz := Lib.hid (div_pow_zero a0 h0 h1)
  have H0 := Lib.hid h0
  clear h0 h1
  obtain ⟨i0, hi0, hz0, hz1, hz2⟩ := info_parts leb_info
  go_enter Tryd.func68, Tryd.ntmps68
  go_wp2
  go_loopw [0, 4, 7] (fun v0 v4 v7 wr => putRel a0 w v0 v4 v7 wr) (fun _ _ v7 _ => 10 - (intOf v7).toNat)
  case atStart =>
    exact ⟨0, a0, List.replicate 10 0, rfl, rfl, rfl, by omega, rfl, ⟨by simp, fun j hj => absurd hj (by omega), rfl⟩, ⟨by rw [blk_new]; rfl⟩, ⟨below_alloc (Below.refl _ _) _⟩⟩
  case round =>
    obtain ⟨i, m, cs, rfl, rfl, rfl, hi, hcs, HA, HC, HB⟩ := hrel
    by_cases hlt : i < 10
    · have hc := nums_cell HC.out (i := i) (by omega)
      have hf := blk_frozen HC.out i
      have HE := Lib.hid (ediv_pow a0 i)
      have hm : 0 ≤ m := by rw [HA.out.1]; exact Int.ediv_nonneg H0.out (Int.pow_nonneg (by decide))
      have HCS := Lib.hid hcs
      clear hcs
      have o1 := u8_or128 m
      have o2 := u8_andNot128 m
      have hdec : i + 1 ≤ 10 := hlt
      by_cases hq : m / 128 = 0
      · have hq1 : (m / 128 == 0) = true := beq_iff_eq.mpr hq
        have HQ := Lib.hid hq
        clear hq
        have hal : Tryd.prog.arrayLen 123 = 10 := by kernel_rfl
        have hsl : ∀ W, (Instr.sliceAt 123 (.pointer (some ⟨w.heap.size, 0, none⟩)) none (some (.int .i64 ((i : Int) + 1))) none).run Tryd.prog W = .ok (.slice (some ⟨w.heap.size, 0, none⟩) (i + 1) 10) W := fun W => by
          rw [run_sliceAt_array_h W 123 ⟨w.heap.size, 0, none⟩ (by kernel_rfl) .i64 ((i : Int) + 1) (by omega) (by rw [hal]; omega), hal]
          go_simp
        have hC1 := (nums_set .u8 (cs.set i (m % 128 + 128)) i (m % 128)) ▸ blk_set ((nums_set .u8 cs i (m % 128 + 128)) ▸ blk_set HC.out i (.int .u8 (m % 128 + 128))) i (.int .u8 (m % 128))
        have HC1 := Lib.hid hC1
        have HB1 := Lib.hid (below_set (j := i) (v := .int .u8 (m % 128)) (below_set (j := i) (v := .int .u8 (m % 128 + 128)) HB.out (Nat.le_refl _)) (Nat.le_refl _))
        have hsz1 := blk_lt HC.out
        clear hal hC1
        have hlen : ((cs.set i (m % 128 + 128)).set i (m % 128)).length = 10 := by rw [List.length_set, List.length_set]; exact HCS.out
        have HLEN := Lib.hid hlen
        clear hlen
        go_wp2_with (first | (at_make; refine wpList_make_full _ rfl (.tmp 27) (.tmp 27) 22 rfl (w.heap.size + 1) 5 i0 (.int .u8 0) 1 Tryd.underlying22 hi0 hz0 hz1 .i64 .i64 _ _ (i + 1) rfl rfl (by simp) (by simp) ?c1 ?c2 ?c3 ?_; (case c1 => exact (by rw [hz2]; omega)); (case c2 => exact (by unfold maxLen; omega)); (case c3 => exact (by simp; omega)); intro w2 hown hgrow; have HO := Lib.hid (own_full (g := wr.heap.size) (by simpa using hown)); have HC2 := Lib.hid (blk_grown HC1.out hgrow (by simp)); have HB2 := Lib.hid (HB1.out.grown hgrow (by simp; omega) (fun k e => by cases e)); clear hown hgrow) | (with_reducible refine wpList_copy_splice rfl (.tmp 29) (.tmp 31) 22 22 rfl 5 Tryd.underlying22 (by rw [hi0]; simp [hz1]) (some ⟨wr.heap.size, 0, none⟩) (some ⟨w.heap.size, 0, none⟩) (i + 1) (i + 1) (i + 1) 10 rfl rfl wr.heap.size 0 _ 5 HO.out.1 ((nums .u8 ((cs.set i (m % 128 + 128)).set i (m % 128))).take (i + 1)) ?d1 ?d2 ?d3 ?d4 w.heap.size w HB2.out ?d5 ?_; (case d1 => exact (by simp [nums, HCS.out]; omega)); (case d2 => exact (fun _ => ⟨rfl, _, rfl, take_cells HC2.out⟩)); (case d3 => exact (by rw [HO.out.2]; simp [nums]; omega)); (case d4 => exact (nums_one _)); (case d5 => exact (by omega)); intro w3 HG hB3; have HB3 := Lib.hid hB3; clear hB3))
        go_ret
        have hfin := leb_last a0 i m cs HCS.out hlt HA.out.1 HA.out.2.1 HA.out.2.2 HQ.out
        refine ⟨.slice (some ⟨wr.heap.size, 0, none⟩) (i + 1) (i + 1), rfl, Kd.R_of_own ?_ (fun _ _ => trivial), HB3.out⟩
        have hl : (lebPut a0).length = i + 1 := by rw [hfin]; simp [HCS.out]; omega
        have hz3 : splice (madeCells (Value.int .u8 0).cells (i + 1)).toList 0 ((nums .u8 ((cs.set i (m % 128 + 128)).set i (m % 128))).take (i + 1)) = nums .u8 (lebPut a0) := by
          have e1 := HO.out.2
          have e2 : ((nums .u8 ((cs.set i (m % 128 + 128)).set i (m % 128))).take (i + 1)).length = i + 1 := by simp [nums, HCS.out]; omega
          have e3 : ((nums .u8 ((cs.set i (m % 128 + 128)).set i (m % 128))).take (i + 1)) = nums .u8 (lebPut a0) := by rw [hfin, nums, nums, List.map_take]
          unfold splice
          rw [e2, List.take_zero, List.nil_append, List.drop_of_length_le (by omega), List.append_nil, e3]
        rw [hz3] at HG
        rw [hl]
        have hl2 : (nums .u8 (lebPut a0)).length = i + 1 := by simp [nums, hl]
        exact full_own HG.out hl2 (by omega) (by unfold maxLen; omega)
      · have hq1 : (m / 128 == 0) = false := beq_eq_false_iff_ne.mpr hq
        have HQ := Lib.hid hq
        clear hq
        have hC1 := (nums_set .u8 cs i (m % 128 + 128)) ▸ blk_set HC.out i (.int .u8 (m % 128 + 128))
        have HC1 := Lib.hid hC1
        have HB1 := Lib.hid (below_set (j := i) (v := .int .u8 (m % 128 + 128)) HB.out (Nat.le_refl _))
        clear hC1
        go_wp2
        go_roundw
        case measure => simp [intOf]; omega
        case rel =>
          have hA := HA.out
          have hcs := HCS.out
          refine ⟨i + 1, m / 128, cs.set i (m % 128 + 128), by go_num, by go_num, rfl, by omega, by rw [List.length_set]; exact hcs, ⟨?_, ?_, ?_⟩, ⟨HC1.out⟩, ⟨HB1.out⟩⟩
          · rw [← HE.out, hA.1]
          · intro j hj
            by_cases e : j = i
            · subst e
              have := HQ.out
              rw [hA.1, HE.out] at this
              exact this
            · exact hA.2.1 j (by omega)
          · rw [take_set_succ (by omega), hA.2.2, lebHead, hA.1]
    · exact absurd hz.out (HA.out.2.1 9 (by omega))
end Go.Proofs.YtmlbfepibfobaaaDoor.Hand
end

section
namespace Go.Proofs.YtmlbfepibfobaaaDoor.Hand
open Go.RowKit Go.Proofs.YtmlbfepibfobaaaDoorW.PrintWords Go.Proofs.YtmlbfepibfobaaaDoorW.PrintLast Go.Proofs.YtmlbfepibfobaaaDoorW.PrintMore
set_option linter.unusedVariables false
set_option linter.unusedSimpArgs false

def byteB (x : Int) : Bool := decide (0 ≤ x) && decide (x < 256)
theorem byteB_iff {x : Int} : byteB x = true ↔ 0 ≤ x ∧ x < 256 := by simp [byteB]
/-- What stands behind a place: the number, the place behind it, and the error. -/
def takeGo (a1 : Int) : List Int → Nat → Int → Int × Int × Int
  | [], _, _ => (0, 0, 2)
  | x :: xs, i, n => if i = 9 ∧ 1 < x then (0, 0, 1) else if x = 0 ∧ 0 < i then (0, 0, 1) else if x < 128 then (n + x * 128 ^ i, a1 + i + 1, 0) else takeGo a1 xs (i + 1) (n + (x - 128) * 128 ^ i)
def lebTake (l : List Int) (a : Int) : Int × Int × Int := if a < 0 ∨ (l.length : Int) < a then (0, 0, 12) else takeGo a (l.drop a.toNat) 0 0
def leb_Take.f (l0 : List Int) (a1 : Int) : Option (Int × Int × Int) := if l0.all byteB = true ∧ l0.length ≤ 281474976710656 then some (lebTake l0 a1) else none

theorem getD_of_drop {l : List Int} {i : Nat} {x : Int} {xs : List Int} (h : l.drop i = x :: xs) : l.getD i 0 = x ∧ i < l.length ∧ l.drop (i + 1) = xs := by
  have hl : i < l.length := by
    rcases Nat.lt_or_ge i l.length with h1 | h1
    · exact h1
    · rw [List.drop_of_length_le h1] at h; cases h
  rw [List.drop_eq_getElem_cons hl] at h
  injection h with h1 h2
  exact ⟨by simp [List.getD, List.getElem?_eq_getElem hl, h1], hl, h2⟩

theorem u8_and128 {x : Int} (h0 : 0 ≤ x) (h1 : x < 256) : Go.bits .and .u8 x 128 = if x < 128 then 0 else 128 := by
  have h : ∀ x : Fin 256, Go.bits .and .u8 (x.val : Int) 128 = if (x.val : Int) < 128 then 0 else 128 := by decide +kernel
  obtain ⟨a, rfl⟩ := Int.eq_ofNat_of_zero_le h0
  exact h ⟨a, by omega⟩
theorem u8_andNot {x : Int} (h0 : 0 ≤ x) (h1 : x < 256) : Go.bits .andNot .u8 x 128 = x % 128 := by
  have h : ∀ x : Fin 256, Go.bits .andNot .u8 (x.val : Int) 128 = (x.val : Int) % 128 := by decide +kernel
  obtain ⟨a, rfl⟩ := Int.eq_ofNat_of_zero_le h0
  exact h ⟨a, by omega⟩
theorem u64_or_add (n y : Int) (i : Nat) (hn0 : 0 ≤ n) (hn1 : n < 2 ^ i) (hi : i ≤ 63) (hy0 : 0 ≤ y) (hy1 : y * 2 ^ i < 2 ^ 64) : Go.bits .or .u64 n (y * 2 ^ i) = n + y * 2 ^ i := by
  obtain ⟨a, rfl⟩ := Int.eq_ofNat_of_zero_le hn0
  obtain ⟨b, rfl⟩ := Int.eq_ofNat_of_zero_le hy0
  have ha : a < 2 ^ i := by exact_mod_cast hn1
  have hb : b * 2 ^ i < 2 ^ 64 := by exact_mod_cast hy1
  have ha64 : a < 2 ^ 64 := Nat.lt_of_lt_of_le ha (Nat.pow_le_pow_right (by decide) (by omega))
  have e : ((b : Int) * 2 ^ i) = ((b * 2 ^ i : Nat) : Int) := by push_cast; rfl
  have w : ∀ n : Int, 0 ≤ n → n < 2 ^ 64 → IntKind.u64.wrap n = n := fun n h0 h1 => by
    simp [IntKind.wrap, IntKind.bits, IntKind.signed]; omega
  rw [e, (Go.bits_nat .u64 64 (by decide) w a _ ha64 hb).2]
  have h2 : a ||| b * 2 ^ i = a + b * 2 ^ i := by
    rw [Nat.or_comm, Nat.mul_comm, ← Nat.two_pow_add_eq_or_of_lt ha b]; omega
  rw [h2]; push_cast; rfl
theorem take_val (n x : Int) (i : Nat) (hn0 : 0 ≤ n) (hn1 : n < 128 ^ i) (hx0 : 0 ≤ x) (hx1 : x < 256) (hi : i ≤ 9) (h9 : i = 9 → x ≤ 1) :
    Go.bits .or .u64 n (IntKind.u64.wrap (IntKind.u64.wrap (Go.bits .andNot .u8 x 128) * 2 ^ (7 * i))) = n + x % 128 * 128 ^ i := by
  have e : (128 : Int) ^ i = 2 ^ (7 * i) := by rw [Int.pow_mul]; rfl
  have w : ∀ n : Int, 0 ≤ n → n < 18446744073709551616 → IntKind.u64.wrap n = n := fun n h0 h1 => by
    simp [IntKind.wrap, IntKind.bits, IntKind.signed]; omega
  have hp : x % 128 * 2 ^ (7 * i) < 18446744073709551616 := by
    have hc : i = 9 ∨ i ≤ 8 := by omega
    rcases hc with rfl | hc
    · have := h9 rfl
      have h1 : x % 128 ≤ 1 := by omega
      have : x % 128 * 2 ^ (7 * 9) ≤ 1 * 2 ^ (7 * 9) := Int.mul_le_mul_of_nonneg_right h1 (by decide)
      have e2 : (1 : Int) * 2 ^ (7 * 9) = 9223372036854775808 := by decide
      omega
    · have h1 : x % 128 ≤ 127 := by omega
      have h2 : (2 : Int) ^ (7 * i) ≤ 2 ^ 56 := by
        have := Nat.pow_le_pow_right (n := 2) (by decide) (show 7 * i ≤ 56 by omega)
        exact_mod_cast this
      have h3 : x % 128 * 2 ^ (7 * i) ≤ 127 * 2 ^ 56 := Int.mul_le_mul h1 h2 (Int.pow_nonneg (by decide)) (by decide)
      have e2 : (127 : Int) * 2 ^ 56 = 9151314442816847872 := by decide
      omega
  have h0 : 0 ≤ x % 128 := by omega
  rw [u8_andNot hx0 hx1, w (x % 128) h0 (by omega), w _ (Int.mul_nonneg h0 (Int.pow_nonneg (by decide))) hp, e]
  exact u64_or_add n (x % 128) (7 * i) hn0 (by rw [← e]; exact hn1) (by omega) h0 (by have : (2 : Int) ^ 64 = 18446744073709551616 := by decide
                                                                                      omega)
theorem take_step (n x : Int) (i : Nat) (hn0 : 0 ≤ n) (hn1 : n < 128 ^ i) (hx0 : 128 ≤ x) (hx1 : x < 256) : 0 ≤ n + (x - 128) * 128 ^ i ∧ n + (x - 128) * 128 ^ i < 128 ^ (i + 1) := by
  have hp : (0 : Int) ≤ 128 ^ i := Int.pow_nonneg (by decide)
  have h1 : (x - 128) * 128 ^ i ≤ 127 * 128 ^ i := Int.mul_le_mul_of_nonneg_right (by omega) hp
  have h2 : 0 ≤ (x - 128) * 128 ^ i := Int.mul_nonneg (by omega) hp
  rw [Int.pow_succ]
  omega

def takeRel (m : Nat) (l0 : List Int) (r : Int × Int × Int) (n8 : Nat) (v7 v22 : Value) : Prop :=
  ∃ (i : Nat) (n : Int) (xs : List Int), v22 = .int .i64 i ∧ v7 = .int .u64 n ∧ i ≤ n8 ∧ Aside0 (i ≤ 9) ∧ Aside0 (takeGo m xs i n = r) ∧ Aside0 (xs = (l0.drop m).drop i) ∧ Aside0 (0 ≤ n ∧ n < 128 ^ i)

set_option maxHeartbeats 8000000 in
set_option maxRecDepth 100000 in
theorem take_loop (A0 : Option Addr) (c0 : Nat) (l0 : List Int) (m : Nat) (r : Int × Int × Int) (w : World) (hr0 : Kd.C (Kd.int .u8) w A0 l0.length l0) (hc0 : l0.length ≤ c0) (hm : m ≤ l0.length) (hb : l0.all byteB = true) (hlen : l0.length ≤ 281474976710656) (hr : r = takeGo m (l0.drop m) 0 0) :
    Calls Tryd.prog 115 #[.slice A0 l0.length c0, .int .i64 m] w fun e w' => e = .returned (.tuple #[.int .u64 r.1, .int .i64 r.2.1, .int .i64 r.2.2]) ∧ Drawn0 w w' := by
  obtain ⟨i0, hi0, hz0, hz1, hz2⟩ := info_parts leb_info
  obtain ⟨A8, hcut, hA8, hC8⟩ := print_drop_of (P := Tryd.prog) (Value.int .u8) 0 22 5 .i64 Tryd.underlying22 hi0 hz1 A0 c0 l0 m (by omega) (by omega) hc0
  have HR := Lib.hid (hA8 _ (Kd.reads_of_C hr0))
  have HRR := Lib.hid hr
  have hb2 := Lib.hid hb
  clear hr0 hr hi0 hz0 hz1 hz2 hA8 hC8 hb
  obtain ⟨n8, hn8⟩ : ∃ n8, n8 = (l0.drop (m : Int).toNat).length := ⟨_, rfl⟩
  have hle : n8 ≤ 281474976710656 := by rw [hn8, List.length_drop]; omega
  rw [← hn8] at HR
  simp only [← hn8] at hcut
  have hgt : decide ((m : Int) > (l0.length : Int)) = false := decide_eq_false (by omega)
  have HN8 := Lib.hid hn8
  clear hn8
  go_enter Tryd.func115, Tryd.ntmps115
  go_wp2
  go_loop [7, 22] (fun v7 v22 => takeRel m l0 r n8 v7 v22) (fun _ v22 => n8 - (intOf v22).toNat)
  case atStart => exact ⟨0, 0, _, rfl, rfl, by omega, ⟨by omega⟩, ⟨HRR.out.symm⟩, ⟨by simp⟩, ⟨by omega, by simp⟩⟩
  case round =>
    obtain ⟨i, n, xs, rfl, rfl, hin, hi9, HT, HX, HB⟩ := hrel
    by_cases hlt : i < n8
    · obtain ⟨x, xs, rfl⟩ : ∃ x ys, xs = x :: ys := by
        cases xs with
        | nil => have := congrArg List.length HX.out; have h2 := HN8.out; simp at this h2; omega
        | cons x ys => exact ⟨x, ys, rfl⟩
      obtain ⟨hx, hil, hrest⟩ := getD_of_drop (HX.out.symm)
      have hxb := byteB_iff.1 (List.all_eq_true.1 hb2.out x (List.mem_of_mem_drop (i := m) (List.mem_of_mem_drop (i := i) (by rw [← HX.out]; exact List.mem_cons_self ..))))
      obtain ⟨ad, had, hcell⟩ := ReadsOf.at_ HR.out (i : Int) (by omega) (by omega)
      cases had
      have hrd : rdOf (0 : Int) (l0.drop (m : Int).toNat) (i : Int) = x := by rw [← hx]; rfl
      rw [hrd, Int.toNat_natCast] at hcell
      have HH := HT.out
      simp only [takeGo] at HH
      have HX2 := Lib.hid hrest
      have HB2 := Lib.hid HB.out
      clear hx hil hrest hrd
      obtain ⟨hx0, hx1⟩ := hxb
      by_cases hA : i = 9 ∧ 1 < x
      · rw [if_pos hA] at HH
        obtain rfl := HH
        have e1 : ((i : Int) == 9) = true := beq_iff_eq.mpr (by omega)
        have e2 : decide (1 < x) = true := decide_eq_true hA.2
        clear hA
        go_wp2
        go_ret3
        exact ⟨rfl, Drawn0.refl _⟩
      · rw [if_neg hA] at HH
        have HNA := Lib.hid hA
        clear hA
        by_cases hB : x = 0 ∧ 0 < i
        · rw [if_pos hB] at HH
          obtain rfl := HH
          obtain ⟨rfl, hi0⟩ := hB
          have e2 : decide ((1 : Int) < 0) = false := rfl
          have e3 : decide ((0 : Int) < (i : Int)) = true := decide_eq_true (by omega)
          have e4 : decide ((0 : Nat) < i) = true := decide_eq_true hi0
          by_cases h9 : i = 9
          · have e1 : ((i : Int) == 9) = true := beq_iff_eq.mpr (by omega)
            clear h9
            go_wp2
            go_ret3
            exact ⟨rfl, Drawn0.refl _⟩
          · have e1 : ((i : Int) == 9) = false := beq_eq_false_iff_ne.mpr (by omega)
            clear h9
            go_wp2
            go_ret3
            exact ⟨rfl, Drawn0.refl _⟩
        · rw [if_neg hB] at HH
          have hi9 := hi9.out
          have HV := Lib.hid (take_val n x i HB2.out.1 HB2.out.2 hx0 hx1 hi9 (fun h => by have := HNA.out; omega))
          by_cases hL : x < 128
          · rw [if_pos hL] at HH
            obtain rfl := HH
            have e5 : (Go.bits .and .u8 x 128 == 0) = true := by rw [u8_and128 hx0 hx1, if_pos hL]; rfl
            have HL := Lib.hid (Int.emod_eq_of_lt hx0 hL)
            have HNB := Lib.hid hB
            by_cases h9 : i = 9
            · have e1 : ((i : Int) == 9) = true := beq_iff_eq.mpr (by omega)
              have e2 : decide (1 < x) = false := decide_eq_false (by have := HNA.out; omega)
              have e3 : (x == 0) = false := beq_eq_false_iff_ne.mpr (by omega)
              clear h9 hB hL
              go_wp2
              go_ret3
              exact ⟨by rw [HV.out, HL.out]; rfl, Drawn0.refl _⟩
            · have e1 : ((i : Int) == 9) = false := beq_eq_false_iff_ne.mpr (by omega)
              by_cases hx : x = 0
              · have e3 : (x == 0) = true := beq_iff_eq.mpr hx
                have e4 : decide ((0 : Int) < (i : Int)) = false := decide_eq_false (by omega)
                have e6 : decide ((0 : Nat) < i) = false := decide_eq_false (by omega)
                clear h9 hB hL hx
                go_wp2
                go_ret3
                exact ⟨by rw [HV.out, HL.out]; rfl, Drawn0.refl _⟩
              · have e3 : (x == 0) = false := beq_eq_false_iff_ne.mpr (by omega)
                clear h9 hB hL hx
                go_wp2
                go_ret3
                exact ⟨by rw [HV.out, HL.out]; rfl, Drawn0.refl _⟩
          · rw [if_neg hL] at HH
            have e5 : (Go.bits .and .u8 x 128 == 0) = false := by rw [u8_and128 hx0 hx1, if_neg hL]; rfl
            have e3 : (x == 0) = false := beq_eq_false_iff_ne.mpr (by omega)
            have e1 : ((i : Int) == 9) = false := beq_eq_false_iff_ne.mpr (by have := HNA.out; omega)
            have HL := Lib.hid (show x % 128 = x - 128 by omega)
            have HI := Lib.hid (show i + 1 ≤ 9 by have := HNA.out; omega)
            have HB3 := Lib.hid (take_step n x i HB2.out.1 HB2.out.2 (by omega) hx1)
            clear hB hL
            go_wp2
            go_round
            case measure => simp [intOf]; omega
            case rel => exact ⟨i + 1, _, _, by go_num, rfl, by omega, ⟨HI.out⟩, ⟨by rw [HV.out, HL.out]; exact HH⟩, ⟨HX2.out.symm⟩, ⟨by rw [HV.out, HL.out]; exact HB3.out⟩⟩
    · have hnil : xs = [] := by
        have := congrArg List.length HX.out; have h2 := HN8.out; simp at this h2; exact List.length_eq_zero_iff.1 (by omega)
      subst hnil
      go_wp2
      go_ret3
      have h := HT.out
      simp only [takeGo] at h
      subst h
      exact ⟨rfl, Drawn0.refl _⟩

set_option maxHeartbeats 8000000 in
set_option maxRecDepth 100000 in
theorem leb_Take.calls (A0 : Option Addr) (c0 : Nat) (l0 : List Int) (a1 : Int) (r1 : Int) (r2 : Int) (r3 : Int) (w : World) (hr0 : Kd.C (Kd.int .u8) w A0 l0.length l0) (hc0 : l0.length ≤ c0) (h : leb_Take.f l0 a1 = some (r1, r2, r3)) :
    Calls Tryd.prog 115 #[.slice A0 l0.length c0, .int .i64 a1] w fun e w' => e = .returned (.tuple #[.int .u64 r1, .int .i64 r2, .int .i64 r3]) ∧ Drawn0 w w' := by
  unfold leb_Take.f at h
  by_cases hg : l0.all byteB = true ∧ l0.length ≤ 281474976710656
  · rw [if_pos hg] at h
    have h := Option.some.inj h
    obtain ⟨hb, hlen⟩ := hg
    unfold lebTake at h
    by_cases ho : a1 < 0 ∨ (l0.length : Int) < a1
    · rw [if_pos ho] at h
      simp only [Prod.mk.injEq] at h
      obtain ⟨rfl, rfl, rfl⟩ := h
      clear hr0 hb hlen hc0
      by_cases h0 : a1 < 0
      · have e1 : decide (a1 < 0) = true := decide_eq_true h0
        clear ho h0
        go_enter Tryd.func115, Tryd.ntmps115
        go_wp2
        go_ret3
        exact ⟨rfl, Drawn0.refl _⟩
      · have e1 : decide (a1 < 0) = false := decide_eq_false h0
        have e2 : decide ((l0.length : Int) < a1) = true := decide_eq_true (by omega)
        clear ho h0
        go_enter Tryd.func115, Tryd.ntmps115
        go_wp2
        go_ret3
        exact ⟨rfl, Drawn0.refl _⟩
    · rw [if_neg ho] at h
      obtain ⟨m, rfl⟩ := Int.eq_ofNat_of_zero_le (show 0 ≤ a1 by omega)
      rw [Int.toNat_natCast] at h
      have := take_loop A0 c0 l0 m (r1, r2, r3) w hr0 hc0 (by omega) hb hlen h.symm
      exact this
  · rw [if_neg hg] at h; cases h
end Go.Proofs.YtmlbfepibfobaaaDoor.Hand
end

section
namespace Go.Proofs.YtmlbfepibfobaaaDoor.Hand
open Go.RowKit Go.Proofs.YtmlbfepibfobaaaDoorW.PrintWords Go.Proofs.YtmlbfepibfobaaaDoorW.PrintLast Go.Proofs.YtmlbfepibfobaaaDoorW.PrintMore
set_option linter.unusedVariables false
set_option linter.unusedSimpArgs false

def secateurref01_Put.f (a0 : Int) : Option (List Int) := leb_Put.f a0

def putRRel (n : Int) (w : World) (v0 v3 : Value) (wr : World) : Prop :=
  ∃ (m : Int) (xs : List Int) (f : Nat), v0 = .int .u64 m ∧ 0 ≤ m ∧ m < 18446744073709551616 ∧ Aside0 (f ≤ 10 ∧ m < 128 ^ f ∧ xs ++ lebTail f m = lebPut n ∧ 0 < f) ∧ Aside0 (xs.length ≤ 10 - f) ∧ Aside0 (Kd.R (Kd.int .u8) 5 wr w.heap.size (fun _ => True) v3 xs) ∧ Aside0 (Below w.heap.size w wr)

set_option maxHeartbeats 8000000 in
set_option maxRecDepth 100000 in
theorem secateurref01_Put.calls (a0 : Int) (r : List Int) (w : World) (h : secateurref01_Put.f a0 = some r) :
    Calls Tryd.prog 25 #[.int .u64 a0] w fun e w' => ∃ v0_ : Value, e = .returned (v0_) ∧ Kd.R (Kd.int .u8) 5 w' w.heap.size (fun _ => True) v0_ r ∧ Below w.heap.size w w' := by
  obtain ⟨h0, h1, rfl⟩ := leb_Put_some h
  clear h
  go_enter Tryd.func25, Tryd.ntmps25
  go_wp2
  go_loopw [0, 3] (fun v0 v3 wr => putRRel a0 w v0 v3 wr) (fun v0 _ _ => (intOf v0).toNat)
  case atStart =>
    exact ⟨a0, [], 10, rfl, h0, h1, ⟨by omega, by have : (128 : Int) ^ 10 = 1180591620717411303424 := by decide
                                                  omega, rfl, by omega⟩, ⟨by simp⟩, ⟨Kd.R_nil _ _ _ _ _⟩, ⟨Below.refl _ _⟩⟩
  case round =>
    obtain ⟨m, xs, f, rfl, hm0, hm1, HF, HL, HO, HB⟩ := hrel
    clear h0 h1
    by_cases hge : 128 ≤ m
    · have hc : decide (128 ≤ m) = true := decide_eq_true hge
      have HQ := Lib.hid (show m / 128 ≠ 0 by omega)
      go_wp2_with (first | (at_builtin; refine Kd.R_append (Kd.int .u8) (w0 := w) w.heap.size rfl (.tmp 6) (.tmp 11) 22 5 (.int .u8 0) 1 rfl Tryd.underlying22 leb_info rfl (by decide) (by omega) u3 xs (m % 128 + 128) [.int .u8 (m % 128 + 128)] (fun _ => True) (fun _ => False) rfl rfl ?aP (fun _ hk => hk.elim) ?aF ?aO ?aB ?aS ?aL ?_; (case aP => exact rfl); (case aB => exact (by repeat (first | (with_reducible first | exact HB.out | apply below_alloc | apply pw_below_drewN | apply below_drew1) | exact HB.out))); (case aF => exact (fun _ _ => trivial)); (case aO => exact (by (with_reducible repeat (first | apply Kd.R_alloc | apply Kd.R_drewN | apply Kd.R_drew)); exact HO.out)); (case aS => exact (below_size (by repeat (first | (with_reducible first | exact HB.out | apply below_alloc | apply pw_below_drewN | apply below_drew1) | exact HB.out)))); (case aL => have := HL.out; omega); intro v1 w4 ho hb hg hat; have HB2 := Aside0.mk hb; have HO2 := Aside0.mk ho; clear ho hb hg hat))
      go_roundw
      case measure => simp [intOf]; omega
      case rel =>
        obtain ⟨hf1, hf2, hf3, hf4⟩ := HF.out
        obtain ⟨f, rfl⟩ : ∃ g, f = g + 1 := ⟨f - 1, by omega⟩
        have hl := HL.out
        have hq := HQ.out
        have hf : 0 < f := by
          rcases Nat.eq_zero_or_pos f with h | h
          · subst h; simp at hf2; omega
          · exact h
        refine ⟨m / 128, xs ++ [m % 128 + 128], f, rfl, by omega, by omega, ⟨by omega, ?_, ?_, hf⟩, ⟨by simp; omega⟩, ⟨by (with_reducible repeat (first | apply Kd.R_alloc | apply Kd.R_drewN | apply Kd.R_drew)); exact HO2.out⟩, ⟨by repeat (first | (with_reducible first | exact HB2.out | apply below_alloc | apply pw_below_drewN | apply below_drew1) | exact HB2.out)⟩⟩
        · rw [Int.pow_succ] at hf2
          omega
        · rw [← hf3]
          simp only [lebTail, if_neg hq, List.append_assoc, List.cons_append, List.nil_append]
    · have hc : decide (128 ≤ m) = false := decide_eq_false hge
      have HQ := Lib.hid (show m / 128 = 0 by omega)
      have HM := Lib.hid (show m % 128 = m by omega)
      go_wp2_with (first | (at_builtin; refine Kd.R_append (Kd.int .u8) (w0 := w) w.heap.size rfl (.tmp 15) (.tmp 18) 22 5 (.int .u8 0) 1 rfl Tryd.underlying22 leb_info rfl (by decide) (by omega) u3 xs m [.int .u8 m] (fun _ => True) (fun _ => False) rfl rfl ?aP (fun _ hk => hk.elim) ?aF ?aO ?aB ?aS ?aL ?_; (case aP => exact rfl); (case aB => exact (by repeat (first | (with_reducible first | exact HB.out | apply below_alloc | apply pw_below_drewN | apply below_drew1) | exact HB.out))); (case aF => exact (fun _ _ => trivial)); (case aO => exact (by (with_reducible repeat (first | apply Kd.R_alloc | apply Kd.R_drewN | apply Kd.R_drew)); exact HO.out)); (case aS => exact (below_size (by repeat (first | (with_reducible first | exact HB.out | apply below_alloc | apply pw_below_drewN | apply below_drew1) | exact HB.out)))); (case aL => have := HL.out; omega); intro v1 w4 ho hb hg hat; have HB2 := Aside0.mk hb; have HO2 := Aside0.mk ho; clear ho hb hg hat))
      go_ret
      obtain ⟨hf1, hf2, hf3, hf4⟩ := HF.out
      obtain ⟨f, rfl⟩ : ∃ g, f = g + 1 := ⟨f - 1, by omega⟩
      refine ⟨_, rfl, ?_, by repeat (first | (with_reducible first | exact HB2.out | apply below_alloc | apply pw_below_drewN | apply below_drew1) | exact HB2.out)⟩
      rw [← hf3, lebTail, if_pos HQ.out, HM.out]
      exact HO2.out
end Go.Proofs.YtmlbfepibfobaaaDoor.Hand
end

section
-- Written by this session's program layer.py (the kit's print, turned), not by hand.
namespace Go.Proofs.YtmlbfepibfobaaaDoor.Q1
open Go.RowKit Go.Proofs.YtmlbfepibfobaaaDoorW.PrintWords Go.Proofs.YtmlbfepibfobaaaDoorW.PrintLast Go.Proofs.YtmlbfepibfobaaaDoorW.PrintMore
attribute [local go_sem] max2_int min2_int max_two min_two max_three min_three max_four min_four   -- for this text's walks alone
set_option linter.unusedVariables false
set_option linter.unusedSimpArgs false



def errW : Option Int → Value
  | none => .nilIface
  | some c => .iface 0 (.int .i64 c)
theorem errW_none : errW none = .nilIface := rfl
theorem errW_some (c : Int) : errW (some c) = .iface 0 (.int .i64 c) := rfl

-- the values' own types

end Go.Proofs.YtmlbfepibfobaaaDoor.Q1
end

section
-- Written by this session's program layer.py (the kit's print, turned), not by hand.
namespace Go.Proofs.YtmlbfepibfobaaaDoor.Q1
open Go.RowKit Go.Proofs.YtmlbfepibfobaaaDoorW.PrintWords Go.Proofs.YtmlbfepibfobaaaDoorW.PrintLast Go.Proofs.YtmlbfepibfobaaaDoorW.PrintMore
attribute [local go_sem] max2_int min2_int max_two min_two max_three min_three max_four min_four   -- for this text's walks alone
set_option linter.unusedVariables false
set_option linter.unusedSimpArgs false

/-! ### leb_Zag: function 79 -/
def leb_Zag.f (a0 : Int) : Option (Int) := some (Go.bits .xor .i64 (wrap64 (a0 / 2)) (wrap64 (-(wrap64 (Go.bits .and .u64 a0 1)))))
set_option maxHeartbeats 8000000 in
set_option maxRecDepth 100000 in
theorem leb_Zag.calls (a0 : Int) (r : Int) (w : World) (h : leb_Zag.f a0 = some r) :
    Calls Tryd.prog 79 #[.int .u64 a0] w fun e w' => e = .returned (.int .i64 r) ∧ Drawn0 w w' := by
  have H : (some (Go.bits .xor .i64 (wrap64 (a0 / 2)) (wrap64 (-(wrap64 (Go.bits .and .u64 a0 1)))))) = some r := h
  clear h
  obtain rfl := Option.some.inj H
  go_enter Tryd.func79, Tryd.ntmps79
  go_wp2
  go_ret
  exact ⟨by first | rfl | (simp; done) | (simp [*]; done), by repeat (first | exact Drawn0.refl _ | apply Drawn0.step)⟩

/-! ### secateurref01_Zig: function 26 -/
def secateurref01_Zig.f (a0 : Int) : Option (Int) := if a0 ≥ 0 then (some (IntKind.u64.wrap ((IntKind.u64.wrap (a0)) * 2))) else (some (IntKind.u64.wrap ((IntKind.u64.wrap ((IntKind.u64.wrap (wrap64 (-(wrap64 (a0 + 1))))) * 2)) + 1)))
set_option maxHeartbeats 8000000 in
set_option maxRecDepth 100000 in
theorem secateurref01_Zig.calls (a0 : Int) (r : Int) (w : World) (h : secateurref01_Zig.f a0 = some r) :
    Calls Tryd.prog 26 #[.int .i64 a0] w fun e w' => e = .returned (.int .u64 r) ∧ Drawn0 w w' := by
  have H : (if a0 ≥ 0 then (some (IntKind.u64.wrap ((IntKind.u64.wrap (a0)) * 2))) else (some (IntKind.u64.wrap ((IntKind.u64.wrap ((IntKind.u64.wrap (wrap64 (-(wrap64 (a0 + 1))))) * 2)) + 1)))) = some r := h
  clear h
  by_cases c2 : a0 ≥ 0
  · rw [if_pos c2] at H
    have c2b0 : decide (0 ≤ a0) = true := decide_eq_true c2
    clear c2
    obtain rfl := Option.some.inj H
    go_enter Tryd.func26, Tryd.ntmps26
    go_wp2
    go_ret
    exact ⟨by first | rfl | (simp; done) | (simp [*]; done), by repeat (first | exact Drawn0.refl _ | apply Drawn0.step)⟩
  · rw [if_neg c2] at H
    have c2b0 : decide (0 ≤ a0) = false := decide_eq_false c2
    clear c2
    obtain rfl := Option.some.inj H
    go_enter Tryd.func26, Tryd.ntmps26
    go_wp2
    go_ret
    exact ⟨by first | rfl | (simp; done) | (simp [*]; done), by repeat (first | exact Drawn0.refl _ | apply Drawn0.step)⟩

/-! ### secateurref01_Zag: function 119 -/
def secateurref01_Zag.f (a0 : Int) : Option (Int) := if (Int.tmod a0 2) = 0 then (some (wrap64 (IntKind.u64.wrap (Int.tdiv a0 2)))) else (some (wrap64 ((wrap64 (-(wrap64 (IntKind.u64.wrap (Int.tdiv a0 2))))) - 1)))
set_option maxHeartbeats 8000000 in
set_option maxRecDepth 100000 in
theorem secateurref01_Zag.calls (a0 : Int) (r : Int) (w : World) (h : secateurref01_Zag.f a0 = some r) :
    Calls Tryd.prog 119 #[.int .u64 a0] w fun e w' => e = .returned (.int .i64 r) ∧ Drawn0 w w' := by
  have H : (if (Int.tmod a0 2) = 0 then (some (wrap64 (IntKind.u64.wrap (Int.tdiv a0 2)))) else (some (wrap64 ((wrap64 (-(wrap64 (IntKind.u64.wrap (Int.tdiv a0 2))))) - 1)))) = some r := h
  clear h
  by_cases c2 : (Int.tmod a0 2) = 0
  · rw [if_pos c2] at H
    have c2b0 : ((Int.tmod a0 2) == 0) = true := beq_iff_eq.mpr c2
    have c2b1 : ((Int.tmod a0 2) != 0) = false := bne_eq_false_iff_eq.mpr c2
    clear c2
    obtain rfl := Option.some.inj H
    go_enter Tryd.func119, Tryd.ntmps119
    go_wp2
    go_ret
    exact ⟨by first | rfl | (simp; done) | (simp [*]; done), by repeat (first | exact Drawn0.refl _ | apply Drawn0.step)⟩
  · rw [if_neg c2] at H
    have c2b0 : ((Int.tmod a0 2) == 0) = false := beq_eq_false_iff_ne.mpr c2
    have c2b1 : ((Int.tmod a0 2) != 0) = true := bne_iff_ne.mpr c2
    obtain rfl := Option.some.inj H
    go_enter Tryd.func119, Tryd.ntmps119
    go_wp2
    go_ret
    exact ⟨by first | rfl | (simp; done) | (simp [*]; done), by repeat (first | exact Drawn0.refl _ | apply Drawn0.step)⟩

/-! ### secateurref01_SameBytes: function 21 -/
def secateurref01_SameBytes.l0 : Nat → List Int → List Int → Int → Option (Bool)
  | 0, _, _, _ => none
  | k + 1, x0, x1, x5 => if x5 < (x0.length : Int) then (if 0 ≤ x5 then (if x5 < (x1.length : Int) then (if (rd x0 x5) = (rd x1 x5) then (secateurref01_SameBytes.l0 k x0 x1 (wrap64 (x5 + 1))) else (some false)) else (none)) else (none)) else (some true)
def secateurref01_SameBytes.f (k : Nat) (l0 : List Int) (l1 : List Int) : Option (Bool) := if (l0.length : Int) = (l1.length : Int) then (secateurref01_SameBytes.l0 k l0 l1 0) else (some false)
theorem secateurref01_SameBytes.mono_l : ∀ k, (∀ y0 y1 y2, LeO (secateurref01_SameBytes.l0 k y0 y1 y2) (secateurref01_SameBytes.l0 (k + 1) y0 y1 y2))
  | 0 => fun _ _ _ r h => by simp [secateurref01_SameBytes.l0] at h
  | k + 1 => by
    have ih0 := secateurref01_SameBytes.mono_l k
    · intro y0 y1 y2
      unfold secateurref01_SameBytes.l0
      repeat' first
      | (with_reducible exact ih0 _ _ _)
      | (with_reducible exact LeO.refl _)
      | (with_reducible exact LeO.none _)
      | (with_reducible refine LeO.ite ?_ ?_)
      | (with_reducible refine LeO.bind ?_ (fun _ => ?_))
      | exact ih0 _ _ _
      | exact LeO.none _
      | refine LeO.ite ?_ ?_
      | refine LeO.bind ?_ (fun _ => ?_)
theorem secateurref01_SameBytes.mono : ∀ a0 a1 k, LeO (secateurref01_SameBytes.f k a0 a1) (secateurref01_SameBytes.f (k + 1) a0 a1) := by
  intro a0 a1 k
  have ih0 := secateurref01_SameBytes.mono_l k
  unfold secateurref01_SameBytes.f
  repeat' first
      | (with_reducible exact ih0 _ _ _)
      | (with_reducible exact LeO.refl _)
      | (with_reducible exact LeO.none _)
      | (with_reducible refine LeO.ite ?_ ?_)
      | (with_reducible refine LeO.bind ?_ (fun _ => ?_))
      | exact ih0 _ _ _
      | exact LeO.none _
      | refine LeO.ite ?_ ?_
      | refine LeO.bind ?_ (fun _ => ?_)
set_option maxHeartbeats 8000000 in
set_option maxRecDepth 100000 in
theorem secateurref01_SameBytes.calls (k : Nat) (A0 : Option Addr) (c0 : Nat) (l0 : List Int) (A1 : Option Addr) (c1 : Nat) (l1 : List Int) (r : Bool) (w : World) (hr0 : Kd.C (Kd.int .u8) w A0 l0.length l0) (hc0 : l0.length ≤ c0) (hr1 : Kd.C (Kd.int .u8) w A1 l1.length l1) (hc1 : l1.length ≤ c1) (h : secateurref01_SameBytes.f k l0 l1 = some r) :
    Calls Tryd.prog 21 #[.slice A0 l0.length c0, .slice A1 l1.length c1] w fun e w' => e = .returned (.bool r) ∧ Drawn0 w w' := by
  have HR0 := Aside0.mk hr0
  have HC0 := Aside0.mk hc0
  clear hr0 hc0
  have HR1 := Aside0.mk hr1
  have HC1 := Aside0.mk hc1
  clear hr1 hc1
  have H : (if (l0.length : Int) = (l1.length : Int) then (secateurref01_SameBytes.l0 k l0 l1 0) else (some false)) = some r := h
  clear h
  by_cases c3 : (l0.length : Int) = (l1.length : Int)
  · rw [if_pos c3] at H
    have c3b0 : ((l0.length : Int) == (l1.length : Int)) = true := beq_iff_eq.mpr c3
    have c3b1 : ((l0.length : Int) != (l1.length : Int)) = false := bne_eq_false_iff_eq.mpr c3
    have c3b2 : (l0.length == l1.length) = true := by first | simpa using c3 | (simp at c3 ⊢; omega)
    clear c3
    have H' := Aside0.mk H
    clear H
    go_enter Tryd.func21, Tryd.ntmps21
    go_wp2
    repeat (go_quiet (fail); try go_wp2)
    go_loopg [5] k (fun kq v5 w' => ∃ (x5_1 : Int), v5 = .int .i64 x5_1 ∧ Aside0 (secateurref01_SameBytes.l0 kq l0 l1 x5_1 = some r) ∧ Aside0 (kq ≤ k) ∧ Drawn0 w w')
    case atStart => exact ⟨(0), (by first | rfl | (simp; done) | (simp [*]; done)), H', ⟨Nat.le_refl _⟩, by repeat (first | exact Drawn0.refl _ | apply Drawn0.step)⟩
    case round =>
      clear H'
      try clear c1
      try clear c2
      try clear p2
      try clear c3
      try clear c3b0
      try clear c3b1
      try clear c3b2
      obtain ⟨x5_1, rfl, HA, HK1, ⟨m1, rfl⟩⟩ := hrel
      cases gk with
      | zero => exact absurd HA.out (by simp [secateurref01_SameBytes.l0])
      | succ k1 =>
        have H := HA.out
        clear HA
        simp only [secateurref01_SameBytes.l0] at H
        by_cases c4 : x5_1 < (l0.length : Int)
        · rw [if_pos c4] at H
          have c4b0 : decide (x5_1 < (l0.length : Int)) = true := decide_eq_true c4
          clear c4
          by_cases c5 : 0 ≤ x5_1
          · rw [if_pos c5] at H
            have c5b0 : decide (0 ≤ x5_1) = true := decide_eq_true c5
            clear c5
            by_cases c6 : x5_1 < (l1.length : Int)
            · rw [if_pos c6] at H
              have c6b0 : decide (x5_1 < (l1.length : Int)) = true := decide_eq_true c6
              clear c6
              by_cases c7 : (rd l0 x5_1) = (rd l1 x5_1)
              · rw [if_pos c7] at H
                have c7b0 : ((rd l0 x5_1) == (rd l1 x5_1)) = true := beq_iff_eq.mpr c7
                have c7b1 : ((rd l0 x5_1) != (rd l1 x5_1)) = false := bne_eq_false_iff_eq.mpr c7
                clear c7
                have H' := Aside0.mk H
                clear H
                have p101 : 0 ≤ (x5_1 : Int) := of_decide_eq_true (by first | (with_reducible assumption) | assumption)
                have q101 : x5_1 < (l0.length : Int) := of_decide_eq_true (by first | (with_reducible assumption) | assumption)
                obtain ⟨ad101, e101, hx101_0⟩ := Kd.at_int HR0.out x5_1 p101 q101
                cases e101
                replace p101 := eq_true p101
                replace q101 := eq_true q101
                have p102 : 0 ≤ (x5_1 : Int) := of_decide_eq_true (by first | (with_reducible assumption) | assumption)
                have q102 : x5_1 < (l1.length : Int) := of_decide_eq_true (by first | (with_reducible assumption) | assumption)
                obtain ⟨ad102, e102, hx102_0⟩ := Kd.at_int HR1.out x5_1 p102 q102
                cases e102
                replace p102 := eq_true p102
                replace q102 := eq_true q102
                go_wp2
                repeat (go_quiet (fail); try go_wp2)
                go_roundg k1
                case measure => have := HK1.out; omega
                case rel => exact ⟨(wrap64 (x5_1 + 1)), (by first | rfl | (simp; done) | (simp [*]; done)), H', ⟨by have := HK1.out; omega⟩, by repeat (first | exact Drawn0.refl _ | apply Drawn0.step)⟩
              · rw [if_neg c7] at H
                have c7b0 : ((rd l0 x5_1) == (rd l1 x5_1)) = false := beq_eq_false_iff_ne.mpr c7
                have c7b1 : ((rd l0 x5_1) != (rd l1 x5_1)) = true := bne_iff_ne.mpr c7
                obtain rfl := Option.some.inj H
                have p101 : 0 ≤ (x5_1 : Int) := of_decide_eq_true (by first | (with_reducible assumption) | assumption)
                have q101 : x5_1 < (l0.length : Int) := of_decide_eq_true (by first | (with_reducible assumption) | assumption)
                obtain ⟨ad101, e101, hx101_0⟩ := Kd.at_int HR0.out x5_1 p101 q101
                cases e101
                replace p101 := eq_true p101
                replace q101 := eq_true q101
                have p102 : 0 ≤ (x5_1 : Int) := of_decide_eq_true (by first | (with_reducible assumption) | assumption)
                have q102 : x5_1 < (l1.length : Int) := of_decide_eq_true (by first | (with_reducible assumption) | assumption)
                obtain ⟨ad102, e102, hx102_0⟩ := Kd.at_int HR1.out x5_1 p102 q102
                cases e102
                replace p102 := eq_true p102
                replace q102 := eq_true q102
                go_wp2
                repeat (go_quiet (fail); try go_wp2)
                go_ret
                exact ⟨by first | rfl | (simp; done) | (simp [*]; done), by repeat (first | exact Drawn0.refl _ | apply Drawn0.step)⟩
            · rw [if_neg c6] at H
              exact absurd H (by simp)
          · rw [if_neg c5] at H
            exact absurd H (by simp)
        · rw [if_neg c4] at H
          have c4b0 : decide (x5_1 < (l0.length : Int)) = false := decide_eq_false c4
          clear c4
          obtain rfl := Option.some.inj H
          go_wp2
          repeat (go_quiet (fail); try go_wp2)
          go_ret
          exact ⟨by first | rfl | (simp; done) | (simp [*]; done), by repeat (first | exact Drawn0.refl _ | apply Drawn0.step)⟩
  · rw [if_neg c3] at H
    have c3b0 : ((l0.length : Int) == (l1.length : Int)) = false := beq_eq_false_iff_ne.mpr c3
    have c3b1 : ((l0.length : Int) != (l1.length : Int)) = true := bne_iff_ne.mpr c3
    have c3b2 : (l0.length == l1.length) = false := by first | simpa using c3 | (simp at c3 ⊢; omega)
    obtain rfl := Option.some.inj H
    go_enter Tryd.func21, Tryd.ntmps21
    go_wp2
    repeat (go_quiet (fail); try go_wp2)
    go_ret
    exact ⟨by first | rfl | (simp; done) | (simp [*]; done), by repeat (first | exact Drawn0.refl _ | apply Drawn0.step)⟩

/-! ### secateurref01_Take: function 139 -/
mutual
def secateurref01_Take.j0 : Nat → List Int → Int → Bool → Option (Int × Int × Int)
  | 0, _, _, _ => none
  | k + 1, x0, x1, x17 => if x17 = true then (some (0, 0, 12)) else (secateurref01_Take.l0 k x0 x1 0 0)
def secateurref01_Take.l0 : Nat → List Int → Int → Int → Int → Option (Int × Int × Int)
  | 0, _, _, _, _ => none
  | k + 1, x0, x1, x7, x8 => if x8 < 10 then (if (wrap64 (x1 + x8)) ≥ (x0.length : Int) then (some (0, 0, 2)) else (if 0 ≤ (wrap64 (x1 + x8)) then (if (wrap64 (x1 + x8)) < (x0.length : Int) then (if x8 = 9 then (secateurref01_Take.j2 k x0 x1 x7 x8 (rd x0 (wrap64 (x1 + x8))) (decide ((rd x0 (wrap64 (x1 + x8))) > 1))) else (secateurref01_Take.j2 k x0 x1 x7 x8 (rd x0 (wrap64 (x1 + x8))) false)) else (none)) else (none))) else (some (0, 0, 1))
def secateurref01_Take.j2 : Nat → List Int → Int → Int → Int → Int → Bool → Option (Int × Int × Int)
  | 0, _, _, _, _, _, _ => none
  | k + 1, x0, x1, x7, x8, x9, x39 => if x39 = true then (some (0, 0, 1)) else (if 0 ≤ (IntKind.u64.wrap (wrap64 (7 * x8))) then (if x9 < 128 then (if x9 = 0 then (if x8 > 0 then (some (0, 0, 1)) else (some (Go.bits .or .u64 x7 (shl .u64 (IntKind.u64.wrap (Int.tmod x9 128)) (IntKind.u64.wrap (wrap64 (7 * x8)))), wrap64 ((wrap64 (x1 + x8)) + 1), 0))) else (some (Go.bits .or .u64 x7 (shl .u64 (IntKind.u64.wrap (Int.tmod x9 128)) (IntKind.u64.wrap (wrap64 (7 * x8)))), wrap64 ((wrap64 (x1 + x8)) + 1), 0))) else (secateurref01_Take.l0 k x0 x1 (Go.bits .or .u64 x7 (shl .u64 (IntKind.u64.wrap (Int.tmod x9 128)) (IntKind.u64.wrap (wrap64 (7 * x8))))) (wrap64 (x8 + 1)))) else (none))
end
def secateurref01_Take.f (k : Nat) (l0 : List Int) (a1 : Int) : Option (Int × Int × Int) := if a1 < 0 then (secateurref01_Take.j0 k l0 a1 true) else (secateurref01_Take.j0 k l0 a1 (decide (a1 > (l0.length : Int))))
theorem secateurref01_Take.mono_l : ∀ k, (∀ y0 y1 y2, LeO (secateurref01_Take.j0 k y0 y1 y2) (secateurref01_Take.j0 (k + 1) y0 y1 y2)) ∧ (∀ y0 y1 y2 y3, LeO (secateurref01_Take.l0 k y0 y1 y2 y3) (secateurref01_Take.l0 (k + 1) y0 y1 y2 y3)) ∧ (∀ y0 y1 y2 y3 y4 y5, LeO (secateurref01_Take.j2 k y0 y1 y2 y3 y4 y5) (secateurref01_Take.j2 (k + 1) y0 y1 y2 y3 y4 y5))
  | 0 => ⟨fun _ _ _ r h => by simp [secateurref01_Take.j0] at h, fun _ _ _ _ r h => by simp [secateurref01_Take.l0] at h, fun _ _ _ _ _ _ r h => by simp [secateurref01_Take.j2] at h⟩
  | k + 1 => by
    obtain ⟨ih0, ih1, ih2⟩ := secateurref01_Take.mono_l k
    refine ⟨?_, ?_, ?_⟩
    · intro y0 y1 y2
      unfold secateurref01_Take.j0
      repeat' first
      | (with_reducible exact ih0 _ _ _)
      | (with_reducible exact ih1 _ _ _ _)
      | (with_reducible exact ih2 _ _ _ _ _ _)
      | (with_reducible exact LeO.refl _)
      | (with_reducible exact LeO.none _)
      | (with_reducible refine LeO.ite ?_ ?_)
      | (with_reducible refine LeO.bind ?_ (fun _ => ?_))
      | exact ih0 _ _ _
      | exact ih1 _ _ _ _
      | exact ih2 _ _ _ _ _ _
      | exact LeO.none _
      | refine LeO.ite ?_ ?_
      | refine LeO.bind ?_ (fun _ => ?_)
    · intro y0 y1 y2 y3
      unfold secateurref01_Take.l0
      repeat' first
      | (with_reducible exact ih0 _ _ _)
      | (with_reducible exact ih1 _ _ _ _)
      | (with_reducible exact ih2 _ _ _ _ _ _)
      | (with_reducible exact LeO.refl _)
      | (with_reducible exact LeO.none _)
      | (with_reducible refine LeO.ite ?_ ?_)
      | (with_reducible refine LeO.bind ?_ (fun _ => ?_))
      | exact ih0 _ _ _
      | exact ih1 _ _ _ _
      | exact ih2 _ _ _ _ _ _
      | exact LeO.none _
      | refine LeO.ite ?_ ?_
      | refine LeO.bind ?_ (fun _ => ?_)
    · intro y0 y1 y2 y3 y4 y5
      unfold secateurref01_Take.j2
      repeat' first
      | (with_reducible exact ih0 _ _ _)
      | (with_reducible exact ih1 _ _ _ _)
      | (with_reducible exact ih2 _ _ _ _ _ _)
      | (with_reducible exact LeO.refl _)
      | (with_reducible exact LeO.none _)
      | (with_reducible refine LeO.ite ?_ ?_)
      | (with_reducible refine LeO.bind ?_ (fun _ => ?_))
      | exact ih0 _ _ _
      | exact ih1 _ _ _ _
      | exact ih2 _ _ _ _ _ _
      | exact LeO.none _
      | refine LeO.ite ?_ ?_
      | refine LeO.bind ?_ (fun _ => ?_)
theorem secateurref01_Take.mono : ∀ a0 a1 k, LeO (secateurref01_Take.f k a0 a1) (secateurref01_Take.f (k + 1) a0 a1) := by
  intro a0 a1 k
  obtain ⟨ih0, ih1, ih2⟩ := secateurref01_Take.mono_l k
  unfold secateurref01_Take.f
  repeat' first
      | (with_reducible exact ih0 _ _ _)
      | (with_reducible exact ih1 _ _ _ _)
      | (with_reducible exact ih2 _ _ _ _ _ _)
      | (with_reducible exact LeO.refl _)
      | (with_reducible exact LeO.none _)
      | (with_reducible refine LeO.ite ?_ ?_)
      | (with_reducible refine LeO.bind ?_ (fun _ => ?_))
      | exact ih0 _ _ _
      | exact ih1 _ _ _ _
      | exact ih2 _ _ _ _ _ _
      | exact LeO.none _
      | refine LeO.ite ?_ ?_
      | refine LeO.bind ?_ (fun _ => ?_)
set_option maxHeartbeats 8000000 in
set_option maxRecDepth 100000 in
theorem secateurref01_Take.calls (k : Nat) (A0 : Option Addr) (c0 : Nat) (l0 : List Int) (a1 : Int) (r1 : Int) (r2 : Int) (r3 : Int) (w : World) (hr0 : Kd.C (Kd.int .u8) w A0 l0.length l0) (hc0 : l0.length ≤ c0) (h : secateurref01_Take.f k l0 a1 = some (r1, r2, r3)) :
    Calls Tryd.prog 139 #[.slice A0 l0.length c0, .int .i64 a1] w fun e w' => e = .returned (.tuple #[.int .u64 r1, .int .i64 r2, .int .i64 r3]) ∧ Drawn0 w w' := by
  have HR0 := Aside0.mk hr0
  have HC0 := Aside0.mk hc0
  clear hr0 hc0
  have H : (if a1 < 0 then (secateurref01_Take.j0 k l0 a1 true) else (secateurref01_Take.j0 k l0 a1 (decide (a1 > (l0.length : Int))))) = some (r1, r2, r3) := h
  clear h
  have HC3 := Aside0.mk H
  clear H
  go_enter Tryd.func139, Tryd.ntmps139
  go_upto_region 1 with (fail)
  go_cut [17] (fun v17 wc => ∃ (kq : Nat) (x17_2 : Bool), v17 = .bool x17_2 ∧ Aside0 (secateurref01_Take.j0 kq l0 a1 x17_2 = some (r1, r2, r3)) ∧ Aside0 (kq ≤ k) ∧ Drawn0 w wc)
  case first =>
    have H := HC3.out
    clear HC3
    by_cases c4 : a1 < 0
    · rw [if_pos c4] at H
      have c4b0 : decide (a1 < 0) = true := decide_eq_true c4
      clear c4
      (first | rw [c4b0] | rw [c4b1] | (simp only [i64_w, i32_w]; rw [c4b0]) | skip)
      have H' := Aside0.mk H
      clear H
      go_wp2
      go_meet
      case rel => exact ⟨_, (true), (by first | rfl | (simp; done) | (simp [*]; done)), H', ⟨by first | omega | exact Nat.le_refl _⟩, by repeat (first | exact Drawn0.refl _ | apply Drawn0.step)⟩
    · rw [if_neg c4] at H
      have c4b0 : decide (a1 < 0) = false := decide_eq_false c4
      clear c4
      (first | rw [c4b0] | rw [c4b1] | (simp only [i64_w, i32_w]; rw [c4b0]) | skip)
      have H' := Aside0.mk H
      clear H
      go_wp2
      go_meet
      case rel => exact ⟨_, (decide (a1 > (l0.length : Int))), (by first | rfl | (simp; done) | (simp [*]; done)), H', ⟨by first | omega | exact Nat.le_refl _⟩, by repeat (first | exact Drawn0.refl _ | apply Drawn0.step)⟩
  case rest =>
    clear HC3
    try clear c1
    try clear p2
    try clear c4
    try clear c4b0
    try clear c4b1
    obtain ⟨kq, x17_2, rfl, HA, HJ2, ⟨mc2, rfl⟩⟩ := hcut
    cases kq with
    | zero => exact absurd HA.out (by simp [secateurref01_Take.j0])
    | succ kj2 =>
      have H := HA.out
      clear HA
      simp only [secateurref01_Take.j0] at H
      by_cases c5 : x17_2 = true
      · subst c5
        have H1 : (some (0, 0, 12)) = some (r1, r2, r3) := by rw [if_pos rfl] at H; exact H
        clear H
        have H := H1
        clear H1
        simp only [Option.some.injEq, Prod.mk.injEq] at H
        obtain ⟨rfl, rfl, rfl⟩ := H
        go_wp2
        go_ret3
        exact ⟨by first | rfl | (simp; done) | (simp [*]; done), by repeat (first | exact Drawn0.refl _ | apply Drawn0.step)⟩
      · replace c5 := Bool.eq_false_iff.mpr c5
        subst c5
        have H1 : (secateurref01_Take.l0 kj2 l0 a1 0 0) = some (r1, r2, r3) := by rw [if_neg (show ¬ (false = true) by decide)] at H; exact H
        clear H
        have H := H1
        clear H1
        have H' := Aside0.mk H
        clear H
        go_wp2
        go_loopg [7, 8] kj2 (fun kq v7 v8 w' => ∃ (x7_2 : Int) (x8_2 : Int), v7 = .int .u64 x7_2 ∧ v8 = .int .i64 x8_2 ∧ Aside0 (secateurref01_Take.l0 kq l0 a1 x7_2 x8_2 = some (r1, r2, r3)) ∧ Aside0 (kq ≤ kj2) ∧ Drawn0 w w')
        case atStart => exact ⟨(0), (0), (by first | rfl | (simp; done) | (simp [*]; done)), (by first | rfl | (simp; done) | (simp [*]; done)), H', ⟨Nat.le_refl _⟩, by repeat (first | exact Drawn0.refl _ | apply Drawn0.step)⟩
        case round =>
          clear H'
          try clear c1
          try clear c2
          try clear p2
          try clear c4
          try clear c4b0
          try clear c4b1
          try clear c5
          try clear p2
          obtain ⟨x7_2, x8_2, rfl, rfl, HA, HK2, ⟨m2, rfl⟩⟩ := hrel
          cases gk with
          | zero => exact absurd HA.out (by simp [secateurref01_Take.l0])
          | succ k2 =>
            have H := HA.out
            clear HA
            simp only [secateurref01_Take.l0] at H
            by_cases c6 : x8_2 < 10
            · rw [if_pos c6] at H
              have c6b0 : decide (x8_2 < 10) = true := decide_eq_true c6
              clear c6
              by_cases c7 : (wrap64 (a1 + x8_2)) ≥ (l0.length : Int)
              · rw [if_pos c7] at H
                have c7b0 : decide ((l0.length : Int) ≤ (wrap64 (a1 + x8_2))) = true := decide_eq_true c7
                clear c7
                simp only [Option.some.injEq, Prod.mk.injEq] at H
                obtain ⟨rfl, rfl, rfl⟩ := H
                go_wp2
                go_ret3
                exact ⟨by first | rfl | (simp; done) | (simp [*]; done), by repeat (first | exact Drawn0.refl _ | apply Drawn0.step)⟩
              · rw [if_neg c7] at H
                have c7b0 : decide ((l0.length : Int) ≤ (wrap64 (a1 + x8_2))) = false := decide_eq_false c7
                clear c7
                obtain ⟨ji8, hji8⟩ : ∃ j_ : Int, (wrap64 (a1 + x8_2)) = j_ := ⟨_, rfl⟩
                replace H : (if 0 ≤ (ji8) then (if (ji8) < (l0.length : Int) then (if x8_2 = 9 then (secateurref01_Take.j2 k2 l0 a1 x7_2 x8_2 (rd l0 (ji8)) (decide ((rd l0 (ji8)) > 1))) else (secateurref01_Take.j2 k2 l0 a1 x7_2 x8_2 (rd l0 (ji8)) false)) else (none)) else (none)) = some (r1, r2, r3) := by first | (rw [hji8] at H; exact H) | (simp only [hji8] at H ⊢; exact H)
                (try rw [hji8] at c7b0)
                have hji8w : (IntKind.i64.wrap (a1 + x8_2)) = ji8 := (i64_w _).trans hji8
                by_cases c9 : 0 ≤ (ji8)
                · rw [if_pos c9] at H
                  have c9b0 : decide (0 ≤ (ji8)) = true := decide_eq_true c9
                  clear c9
                  by_cases c10 : (ji8) < (l0.length : Int)
                  · rw [if_pos c10] at H
                    have c10b0 : decide ((ji8) < (l0.length : Int)) = true := decide_eq_true c10
                    clear c10
                    have HC11 := Aside0.mk H
                    clear H
                    have p103 : 0 ≤ ((ji8) : Int) := of_decide_eq_true (by first | (with_reducible assumption) | assumption)
                    have q103 : (ji8) < (l0.length : Int) := of_decide_eq_true (by first | (with_reducible assumption) | assumption)
                    obtain ⟨ad103, e103, hx103_0⟩ := Kd.at_int HR0.out (ji8) p103 q103
                    cases e103
                    replace p103 := eq_true p103
                    replace q103 := eq_true q103
                    go_upto_region 10 with (fail)
                    go_cut [39] (fun v39 wc => ∃ (kq : Nat) (x39_10 : Bool), v39 = .bool x39_10 ∧ Aside0 (secateurref01_Take.j2 kq l0 a1 x7_2 x8_2 (rd l0 (ji8)) x39_10 = some (r1, r2, r3)) ∧ Aside0 (kq ≤ k2) ∧ Drawn0 w wc)
                    case first =>
                      have H := HC11.out
                      clear HC11
                      by_cases c12 : x8_2 = 9
                      · rw [if_pos c12] at H
                        have c12b0 : (x8_2 == 9) = true := beq_iff_eq.mpr c12
                        have c12b1 : (x8_2 != 9) = false := bne_eq_false_iff_eq.mpr c12
                        clear c12
                        (first | rw [c12b0] | rw [c12b1] | (simp only [i64_w, i32_w]; rw [c12b0]) | skip)
                        have H' := Aside0.mk H
                        clear H
                        go_wp2
                        go_meet
                        case rel => exact ⟨_, (decide ((rd l0 (ji8)) > 1)), (by first | rfl | (simp; done) | (simp only [← hji8] <;> (first | rfl | simp)) | (simp [*]; done)), H', ⟨by have := HJ2.out; have := HK2.out; first | omega | exact Nat.le_refl _⟩, by repeat (first | exact Drawn0.refl _ | apply Drawn0.step)⟩
                      · rw [if_neg c12] at H
                        have c12b0 : (x8_2 == 9) = false := beq_eq_false_iff_ne.mpr c12
                        have c12b1 : (x8_2 != 9) = true := bne_iff_ne.mpr c12
                        (first | rw [c12b0] | rw [c12b1] | (simp only [i64_w, i32_w]; rw [c12b0]) | skip)
                        have H' := Aside0.mk H
                        clear H
                        go_wp2
                        go_meet
                        case rel => exact ⟨_, (false), (by first | rfl | (simp; done) | (simp [*]; done)), H', ⟨by have := HJ2.out; have := HK2.out; first | omega | exact Nat.le_refl _⟩, by repeat (first | exact Drawn0.refl _ | apply Drawn0.step)⟩
                    case rest =>
                      clear HC11
                      try clear c1
                      try clear p1
                      try clear q1
                      try clear hx1
                      try clear c2
                      try clear p2
                      try clear c4
                      try clear c4b0
                      try clear c4b1
                      try clear c5
                      try clear c6
                      try clear c6b0
                      try clear p6
                      try clear c7
                      try clear c7b0
                      try clear c9
                      try clear c9b0
                      try clear c10
                      try clear c10b0
                      try clear p10
                      try clear q10
                      try clear hx10
                      try clear c12
                      try clear c12b0
                      try clear c12b1
                      try clear hx103_0
                      try clear p103
                      try clear p2
                      try clear q103
                      obtain ⟨kq, x39_10, rfl, HA, HJ10, ⟨mc10, rfl⟩⟩ := hcut
                      cases kq with
                      | zero => exact absurd HA.out (by simp [secateurref01_Take.j2])
                      | succ kj10 =>
                        have H := HA.out
                        clear HA
                        simp only [secateurref01_Take.j2] at H
                        by_cases c13 : x39_10 = true
                        · subst c13
                          have H1 : (some (0, 0, 1)) = some (r1, r2, r3) := by rw [if_pos rfl] at H; exact H
                          clear H
                          have H := H1
                          clear H1
                          simp only [Option.some.injEq, Prod.mk.injEq] at H
                          obtain ⟨rfl, rfl, rfl⟩ := H
                          go_wp2
                          go_ret3
                          exact ⟨by first | rfl | (simp; done) | (simp only [← hji8] <;> (first | rfl | simp)) | (simp [*]; done), by repeat (first | exact Drawn0.refl _ | apply Drawn0.step)⟩
                        · replace c13 := Bool.eq_false_iff.mpr c13
                          subst c13
                          have H1 : (if 0 ≤ (IntKind.u64.wrap (wrap64 (7 * x8_2))) then (if (rd l0 (ji8)) < 128 then (if (rd l0 (ji8)) = 0 then (if x8_2 > 0 then (some (0, 0, 1)) else (some (Go.bits .or .u64 x7_2 (shl .u64 (IntKind.u64.wrap (Int.tmod (rd l0 (ji8)) 128)) (IntKind.u64.wrap (wrap64 (7 * x8_2)))), wrap64 ((wrap64 (a1 + x8_2)) + 1), 0))) else (some (Go.bits .or .u64 x7_2 (shl .u64 (IntKind.u64.wrap (Int.tmod (rd l0 (ji8)) 128)) (IntKind.u64.wrap (wrap64 (7 * x8_2)))), wrap64 ((wrap64 (a1 + x8_2)) + 1), 0))) else (secateurref01_Take.l0 kj10 l0 a1 (Go.bits .or .u64 x7_2 (shl .u64 (IntKind.u64.wrap (Int.tmod (rd l0 (ji8)) 128)) (IntKind.u64.wrap (wrap64 (7 * x8_2))))) (wrap64 (x8_2 + 1)))) else (none)) = some (r1, r2, r3) := by rw [if_neg (show ¬ (false = true) by decide)] at H; exact H
                          clear H
                          have H := H1
                          clear H1
                          obtain ⟨ji14, hji14⟩ : ∃ j_ : Int, (IntKind.u64.wrap (wrap64 (7 * x8_2))) = j_ := ⟨_, rfl⟩
                          replace H : (if 0 ≤ (ji14) then (if (rd l0 (ji8)) < 128 then (if (rd l0 (ji8)) = 0 then (if x8_2 > 0 then (some (0, 0, 1)) else (some (Go.bits .or .u64 x7_2 (shl .u64 (IntKind.u64.wrap (Int.tmod (rd l0 (ji8)) 128)) (ji14)), wrap64 ((wrap64 (a1 + x8_2)) + 1), 0))) else (some (Go.bits .or .u64 x7_2 (shl .u64 (IntKind.u64.wrap (Int.tmod (rd l0 (ji8)) 128)) (ji14)), wrap64 ((wrap64 (a1 + x8_2)) + 1), 0))) else (secateurref01_Take.l0 kj10 l0 a1 (Go.bits .or .u64 x7_2 (shl .u64 (IntKind.u64.wrap (Int.tmod (rd l0 (ji8)) 128)) (ji14))) (wrap64 (x8_2 + 1)))) else (none)) = some (r1, r2, r3) := by first | (rw [hji14] at H; exact H) | (simp only [hji14] at H ⊢; exact H)
                          by_cases c15 : 0 ≤ (ji14)
                          · rw [if_pos c15] at H
                            have c15b0 := eq_true c15
                            have c15b1 : decide (0 ≤ (ji14)) = true := decide_eq_true c15
                            clear c15
                            obtain ⟨ji16, hji16⟩ : ∃ j_ : Int, (shl .u64 (IntKind.u64.wrap (Int.tmod (rd l0 (ji8)) 128)) (ji14)) = j_ := ⟨_, rfl⟩
                            replace H : (if (rd l0 (ji8)) < 128 then (if (rd l0 (ji8)) = 0 then (if x8_2 > 0 then (some (0, 0, 1)) else (some (Go.bits .or .u64 x7_2 (ji16), wrap64 ((wrap64 (a1 + x8_2)) + 1), 0))) else (some (Go.bits .or .u64 x7_2 (ji16), wrap64 ((wrap64 (a1 + x8_2)) + 1), 0))) else (secateurref01_Take.l0 kj10 l0 a1 (Go.bits .or .u64 x7_2 (ji16)) (wrap64 (x8_2 + 1)))) = some (r1, r2, r3) := by first | (rw [hji16] at H; exact H) | (simp only [hji16] at H ⊢; exact H)
                            have hji16_ : (IntKind.u64.wrap ((IntKind.u64.wrap (Int.tmod (rd l0 (ji8)) 128)) * 2 ^ min (ji14).toNat 64)) = ji16 := hji16
                            have hji16z : (ji14) ≤ 64 → (IntKind.u64.wrap ((IntKind.u64.wrap (Int.tmod (rd l0 (ji8)) 128)) * 2 ^ (ji14).toNat)) = ji16 := shl_small hji16
                            by_cases c17 : (rd l0 (ji8)) < 128
                            · rw [if_pos c17] at H
                              have c17b0 : decide ((rd l0 (ji8)) < 128) = true := decide_eq_true c17
                              clear c17
                              by_cases c18 : (rd l0 (ji8)) = 0
                              · rw [if_pos c18] at H
                                have c18b0 : ((rd l0 (ji8)) == 0) = true := beq_iff_eq.mpr c18
                                have c18b1 : ((rd l0 (ji8)) != 0) = false := bne_eq_false_iff_eq.mpr c18
                                clear c18
                                by_cases c19 : x8_2 > 0
                                · rw [if_pos c19] at H
                                  have c19b0 : decide (0 < x8_2) = true := decide_eq_true c19
                                  clear c19
                                  simp only [Option.some.injEq, Prod.mk.injEq] at H
                                  obtain ⟨rfl, rfl, rfl⟩ := H
                                  go_wp2
                                  go_ret3
                                  exact ⟨by first | rfl | (simp; done) | (simp only [← hji8, ← hji14, ← hji16] <;> (first | rfl | simp)) | (simp [*]; done), by repeat (first | exact Drawn0.refl _ | apply Drawn0.step)⟩
                                · rw [if_neg c19] at H
                                  have c19b0 : decide (0 < x8_2) = false := decide_eq_false c19
                                  clear c19
                                  simp only [Option.some.injEq, Prod.mk.injEq] at H
                                  obtain ⟨rfl, rfl, rfl⟩ := H
                                  go_wp2
                                  go_ret3
                                  exact ⟨by first | rfl | (simp; done) | (simp only [← hji8, ← hji14, ← hji16] <;> (first | rfl | simp)) | (simp [*]; done), by repeat (first | exact Drawn0.refl _ | apply Drawn0.step)⟩
                              · rw [if_neg c18] at H
                                have c18b0 : ((rd l0 (ji8)) == 0) = false := beq_eq_false_iff_ne.mpr c18
                                have c18b1 : ((rd l0 (ji8)) != 0) = true := bne_iff_ne.mpr c18
                                simp only [Option.some.injEq, Prod.mk.injEq] at H
                                obtain ⟨rfl, rfl, rfl⟩ := H
                                go_wp2
                                go_ret3
                                exact ⟨by first | rfl | (simp; done) | (simp only [← hji8, ← hji14, ← hji16] <;> (first | rfl | simp)) | (simp [*]; done), by repeat (first | exact Drawn0.refl _ | apply Drawn0.step)⟩
                            · rw [if_neg c17] at H
                              have c17b0 : decide ((rd l0 (ji8)) < 128) = false := decide_eq_false c17
                              clear c17
                              have H' := Aside0.mk H
                              clear H
                              go_wp2
                              go_roundg kj10
                              case measure => have := HJ2.out; have := HK2.out; have := HJ10.out; omega
                              case rel => exact ⟨(Go.bits .or .u64 x7_2 (ji16)), (wrap64 (x8_2 + 1)), (by first | rfl | (simp; done) | (simp only [← hji16] <;> (first | rfl | simp)) | (simp [*]; done)), (by first | rfl | (simp; done) | (simp [*]; done)), H', ⟨by have := HJ2.out; have := HK2.out; have := HJ10.out; omega⟩, by repeat (first | exact Drawn0.refl _ | apply Drawn0.step)⟩
                          · rw [if_neg c15] at H
                            exact absurd H (by simp)
                  · rw [if_neg c10] at H
                    exact absurd H (by simp)
                · rw [if_neg c9] at H
                  exact absurd H (by simp)
            · rw [if_neg c6] at H
              have c6b0 : decide (x8_2 < 10) = false := decide_eq_false c6
              clear c6
              simp only [Option.some.injEq, Prod.mk.injEq] at H
              obtain ⟨rfl, rfl, rfl⟩ := H
              go_wp2
              go_ret3
              exact ⟨by first | rfl | (simp; done) | (simp [*]; done), by repeat (first | exact Drawn0.refl _ | apply Drawn0.step)⟩

end Go.Proofs.YtmlbfepibfobaaaDoor.Q1
end

section
-- Written by this session's program layer.py (the kit's print, turned), not by hand.
namespace Go.Proofs.YtmlbfepibfobaaaDoor.Q1
open Go.RowKit Go.Proofs.YtmlbfepibfobaaaDoorW.PrintWords Go.Proofs.YtmlbfepibfobaaaDoorW.PrintLast Go.Proofs.YtmlbfepibfobaaaDoorW.PrintMore
attribute [local go_sem] max2_int min2_int max_two min_two max_three min_three max_four min_four   -- for this text's walks alone
set_option linter.unusedVariables false
set_option linter.unusedSimpArgs false

end Go.Proofs.YtmlbfepibfobaaaDoor.Q1
end

section
namespace Go.Proofs.YtmlbfepibfobaaaDoor.Hand
open Go.RowKit Go.Proofs.YtmlbfepibfobaaaDoorW.PrintWords Go.Proofs.YtmlbfepibfobaaaDoorW.PrintLast Go.Proofs.YtmlbfepibfobaaaDoorW.PrintMore
set_option linter.unusedVariables false
set_option linter.unusedSimpArgs false

/-! ### leb.Size -/
def leb_Size.f (a0 : Int) : Option Int := if 0 ≤ a0 ∧ a0 < 18446744073709551616 then some ((lebPut a0).length : Int) else none
theorem lebTail_length_le : ∀ f m, (lebTail f m).length ≤ f
  | 0, _ => by simp [lebTail]
  | f + 1, m => by
    unfold lebTail
    split
    · simp
    · simp only [List.length_cons]
      have := lebTail_length_le f (m / 128)
      omega
theorem lebPut_length_le (n : Int) : (lebPut n).length ≤ 10 := lebTail_length_le 10 n
theorem lebTail_length_pos : ∀ f m, 0 < f → 0 < (lebTail f m).length
  | f + 1, m, _ => by
    unfold lebTail
    split <;> simp
theorem w64 {x : Int} (h0 : -9223372036854775808 ≤ x) (h1 : x ≤ 9223372036854775807) : wrap64 x = x := by
  unfold wrap64
  omega
theorem wu64 {x : Int} (h0 : 0 ≤ x) (h1 : x < 18446744073709551616) : IntKind.u64.wrap x = x := by
  simp [IntKind.wrap, IntKind.bits, IntKind.signed]
  omega
theorem p128_10 : (128 : Int) ^ 10 = 1180591620717411303424 := by decide
/-! ### leb.Zig, leb.Zag and the reference's -/
def zigI (n : Int) : Int := if 0 ≤ n then 2 * n else -2 * n - 1
def zagI (u : Int) : Int := if u % 2 = 0 then u / 2 else -(u / 2) - 1
def leb_Zig.f (a0 : Int) : Option Int := if -9223372036854775808 ≤ a0 ∧ a0 < 9223372036854775808 then some (zigI a0) else none
def secateurref01_Zig.f (a0 : Int) : Option Int := leb_Zig.f a0
def leb_Zag.f (a0 : Int) : Option Int := if 0 ≤ a0 ∧ a0 < 18446744073709551616 then some (zagI a0) else none
def secateurref01_Zag.f (a0 : Int) : Option Int := leb_Zag.f a0

theorem xor_ones (k : IntKind) (x y : Int) (hy : BitVec.ofInt k.bits y = BitVec.allOnes k.bits) : Go.bits .xor k x y = k.wrap (((2 ^ k.bits - 1 - (x % 2 ^ k.bits).toNat : Nat)) : Int) := by
  simp only [Go.bits, hy, BitVec.xor_allOnes, BitVec.toNat_not, BitVec.toNat_ofInt]
  norm_cast
theorem xor_zero (k : IntKind) (x : Int) : Go.bits .xor k x 0 = k.wrap ((x % 2 ^ k.bits).toNat : Int) := by
  have h0 : BitVec.ofInt k.bits 0 = 0#k.bits := by simp
  simp only [Go.bits, h0, BitVec.xor_zero, BitVec.toNat_ofInt]
  norm_cast
theorem p64 : (2 : Int) ^ 64 = 18446744073709551616 := by decide
theorem and_one (a0 : Int) (h0 : 0 ≤ a0) (h1 : a0 < 18446744073709551616) : Go.bits .and .u64 a0 1 = a0 % 2 := by
  have := Go.bits_mask .u64 64 (by decide) (fun n h0 h1 => wu64 h0 (by rw [p64] at h1; exact h1)) 1 (by decide) a0 h0 (by rw [p64]; exact h1)
  exact this
theorem zag_eq (a0 : Int) (h0 : 0 ≤ a0) (h1 : a0 < 18446744073709551616) : Q1.leb_Zag.f a0 = some (zagI a0) := by
  unfold Q1.leb_Zag.f zagI
  congr 1
  rw [and_one a0 h0 h1]
  have e2 : ((2 : Int) ^ IntKind.i64.bits) = 18446744073709551616 := by decide
  have e3 : ((2 : Nat) ^ IntKind.i64.bits) = 18446744073709551616 := by decide
  have wi : ∀ x : Int, IntKind.i64.wrap x = wrap64 x := fun x => by rw [IntKind.wrap_i64]; unfold wrap64; omega
  rw [w64 (x := a0 / 2) (by omega) (by omega), w64 (x := a0 % 2) (by omega) (by omega), w64 (x := -(a0 % 2)) (by omega) (by omega)]
  by_cases h : a0 % 2 = 0
  · rw [if_pos h, h]
    have w0 : (-(0 : Int)) = 0 := rfl
    rw [w0, xor_zero, e2, wi, w64 (by omega) (by omega)]
    omega
  · have h' : a0 % 2 = 1 := by omega
    rw [if_neg h, h', xor_ones _ _ _ (by decide), e2, e3, wi]
    unfold wrap64
    omega
theorem zigR_eq (a0 : Int) (h0 : -9223372036854775808 ≤ a0) (h1 : a0 < 9223372036854775808) : Q1.secateurref01_Zig.f a0 = some (zigI a0) := by
  unfold Q1.secateurref01_Zig.f zigI
  by_cases h : 0 ≤ a0
  · rw [if_pos (show a0 ≥ 0 from h), if_pos h, wu64 h (by omega), wu64 (by omega) (by omega)]
    congr 1
    omega
  · rw [if_neg (show ¬ a0 ≥ 0 from h), if_neg h]
    congr 1
    rw [w64 (x := a0 + 1) (by omega) (by omega), w64 (x := -(a0 + 1)) (by omega) (by omega), wu64 (x := -(a0 + 1)) (by omega) (by omega), wu64 (x := -(a0 + 1) * 2) (by omega) (by omega), wu64 (by omega) (by omega)]
    omega
theorem zagR_eq (a0 : Int) (h0 : 0 ≤ a0) (h1 : a0 < 18446744073709551616) : Q1.secateurref01_Zag.f a0 = some (zagI a0) := by
  unfold Q1.secateurref01_Zag.f zagI
  have t1 : Int.tmod a0 2 = a0 % 2 := Int.tmod_eq_emod_of_nonneg h0
  have t2 : Int.tdiv a0 2 = a0 / 2 := Int.tdiv_eq_ediv_of_nonneg h0
  rw [t1, t2, wu64 (x := a0 / 2) (by omega) (by omega), w64 (x := a0 / 2) (by omega) (by omega), w64 (x := -(a0 / 2)) (by omega) (by omega), w64 (x := -(a0 / 2) - 1) (by omega) (by omega)]
  split <;> rfl

theorem leb_Zag.calls (a0 : Int) (r : Int) (w : World) (h : leb_Zag.f a0 = some r) :
    Calls Tryd.prog 79 #[.int .u64 a0] w fun e w' => e = .returned (.int .i64 r) ∧ Drawn0 w w' := by
  unfold leb_Zag.f at h
  split at h
  · rename_i hg
    exact Q1.leb_Zag.calls a0 r w ((zag_eq a0 hg.1 hg.2).trans h)
  · cases h
theorem secateurref01_Zig.calls (a0 : Int) (r : Int) (w : World) (h : secateurref01_Zig.f a0 = some r) :
    Calls Tryd.prog 26 #[.int .i64 a0] w fun e w' => e = .returned (.int .u64 r) ∧ Drawn0 w w' := by
  unfold secateurref01_Zig.f leb_Zig.f at h
  split at h
  · rename_i hg
    exact Q1.secateurref01_Zig.calls a0 r w ((zigR_eq a0 hg.1 hg.2).trans h)
  · cases h
theorem secateurref01_Zag.calls (a0 : Int) (r : Int) (w : World) (h : secateurref01_Zag.f a0 = some r) :
    Calls Tryd.prog 119 #[.int .u64 a0] w fun e w' => e = .returned (.int .i64 r) ∧ Drawn0 w w' := by
  unfold secateurref01_Zag.f leb_Zag.f at h
  split at h
  · rename_i hg
    exact Q1.secateurref01_Zag.calls a0 r w ((zagR_eq a0 hg.1 hg.2).trans h)
  · cases h
end Go.Proofs.YtmlbfepibfobaaaDoor.Hand
end

section
namespace Go.Proofs.YtmlbfepibfobaaaDoor.Hand
open Go.RowKit Go.Proofs.YtmlbfepibfobaaaDoorW.PrintWords Go.Proofs.YtmlbfepibfobaaaDoorW.PrintLast Go.Proofs.YtmlbfepibfobaaaDoorW.PrintMore
set_option linter.unusedVariables false
set_option linter.unusedSimpArgs false

theorem rd_nat (l : List Int) (i : Nat) : rd l (i : Int) = l.getD i 0 := by simp [rd]
theorem drop_cons (l : List Int) {i : Nat} (h : i < l.length) : l.drop i = l.getD i 0 :: l.drop (i + 1) := by
  rw [List.drop_eq_getElem_cons h]
  simp [List.getD, List.getElem?_eq_getElem h]

/-! ### SameBytes, SameNums -/
def secateurref01_SameBytes.f (l0 l1 : List Int) : Option Bool := some (decide (l0 = l1))
def secateurref01_SameNums.f (l0 l1 : List Int) : Option Bool := some (decide (l0 = l1))
theorem len_of_C {k : IntKind} {w : World} {A : Option Addr} {l : List Int} (h : Kd.C (Kd.int k) w A l.length l) : l.length ≤ 9223372036854775807 :=
  (Kd.reads_of_C (enc := Value.int k) (d := (0 : Int)) (h1 := fun _ => rfl) h).2.1
theorem same_step (l0 l1 : List Int) {i : Nat} (h0 : i < l0.length) (h1 : i < l1.length) : (l0.drop i = l1.drop i) ↔ (l0.getD i 0 = l1.getD i 0 ∧ l0.drop (i + 1) = l1.drop (i + 1)) := by
  rw [drop_cons l0 h0, drop_cons l1 h1]
  simp
theorem sameBytes_loop (l0 l1 : List Int) (hl : l0.length = l1.length) (hm : l0.length ≤ 9223372036854775807) (d : Nat) : ∀ (k i : Nat), l0.length - i = d → i ≤ l0.length → d < k → Q1.secateurref01_SameBytes.l0 k l0 l1 i = some (decide (l0.drop i = l1.drop i)) := by
  induction d with
  | zero =>
    intro k i hd hi hk
    obtain ⟨k, rfl⟩ : ∃ m, k = m + 1 := ⟨k - 1, by omega⟩
    simp only [Q1.secateurref01_SameBytes.l0]
    rw [if_neg (by omega)]
    have e : l0.drop i = l1.drop i := by rw [List.drop_of_length_le (by omega), List.drop_of_length_le (by omega)]
    simp [e]
  | succ d ih =>
    intro k i hd hi hk
    obtain ⟨k, rfl⟩ : ∃ m, k = m + 1 := ⟨k - 1, by omega⟩
    simp only [Q1.secateurref01_SameBytes.l0]
    rw [if_pos (by omega), if_pos (by omega), if_pos (by omega), rd_nat, rd_nat, w64 (by omega) (by omega)]
    have ih := ih k (i + 1) (by omega) (by omega) (by omega)
    push_cast at ih
    have hs := same_step l0 l1 (i := i) (by omega) (by omega)
    by_cases hx : l0.getD i 0 = l1.getD i 0
    · rw [if_pos hx, ih]
      congr 1
      exact decide_eq_decide.2 (by rw [hs]; exact ⟨fun h => ⟨hx, h⟩, fun h => h.2⟩)
    · rw [if_neg hx]
      congr 1
      exact (decide_eq_false (by rw [hs]; exact fun h => hx h.1)).symm
theorem sameBytes_eq (l0 l1 : List Int) (hm : l0.length ≤ 9223372036854775807) : Q1.secateurref01_SameBytes.f (l0.length + 1) l0 l1 = some (decide (l0 = l1)) := by
  unfold Q1.secateurref01_SameBytes.f
  by_cases h : l0.length = l1.length
  · rw [if_pos (by omega)]
    exact sameBytes_loop l0 l1 h hm _ _ 0 rfl (by omega) (by omega)
  · rw [if_neg (by omega)]
    congr 1
    exact (decide_eq_false (fun e => h (by rw [e]))).symm
theorem secateurref01_SameBytes.calls (A0 : Option Addr) (c0 : Nat) (l0 : List Int) (A1 : Option Addr) (c1 : Nat) (l1 : List Int) (r : Bool) (w : World) (hr0 : Kd.C (Kd.int .u8) w A0 l0.length l0) (hc0 : l0.length ≤ c0) (hr1 : Kd.C (Kd.int .u8) w A1 l1.length l1) (hc1 : l1.length ≤ c1) (h : secateurref01_SameBytes.f l0 l1 = some r) :
    Calls Tryd.prog 21 #[.slice A0 l0.length c0, .slice A1 l1.length c1] w fun e w' => e = .returned (.bool r) ∧ Drawn0 w w' :=
  Q1.secateurref01_SameBytes.calls (l0.length + 1) A0 c0 l0 A1 c1 l1 r w hr0 hc0 hr1 hc1 ((sameBytes_eq l0 l1 (len_of_C hr0)).trans h)
/-! ### Join -/
def u64B (x : Int) : Bool := decide (0 ≤ x) && decide (x < 18446744073709551616)
theorem u64B_iff {x : Int} : u64B x = true ↔ 0 ≤ x ∧ x < 18446744073709551616 := by simp [u64B]
def lebJoin (l : List Int) : List Int := l.flatMap lebPut
def leb_Join.f (l0 : List Int) : Option (List Int) := if l0.all u64B = true ∧ l0.length ≤ 4194304 then some (lebJoin l0) else none
def secateurref01_Join.f (l0 : List Int) : Option (List Int) := leb_Join.f l0
theorem lebJoin_length_le (l : List Int) : (lebJoin l).length ≤ 10 * l.length := by
  unfold lebJoin
  induction l with
  | nil => simp
  | cons x l ih =>
    rw [List.flatMap_cons, List.length_append, List.length_cons]
    have := lebPut_length_le x
    omega
theorem put_some {x : Int} (h : u64B x = true) : leb_Put.f x = some (lebPut x) := by
  obtain ⟨h0, h1⟩ := u64B_iff.1 h
  unfold leb_Put.f
  rw [if_pos h0, if_pos h1]
theorem all_getD {p : Int → Bool} {l : List Int} (h : l.all p = true) {i : Nat} (hi : i < l.length) : p (l.getD i 0) = true := by
  rw [List.getD, List.getElem?_eq_getElem hi]
  exact List.all_eq_true.1 h _ (List.getElem_mem hi)
theorem join_step (l : List Int) {i : Nat} (h : i < l.length) : lebJoin (l.drop i) = lebPut (l.getD i 0) ++ lebJoin (l.drop (i + 1)) := by
  rw [drop_cons l h]
  simp [lebJoin]
end Go.Proofs.YtmlbfepibfobaaaDoor.Hand
end

section
namespace Go.Proofs.YtmlbfepibfobaaaDoor.Hand
open Go.RowKit Go.Proofs.YtmlbfepibfobaaaDoorW.PrintWords Go.Proofs.YtmlbfepibfobaaaDoorW.PrintLast Go.Proofs.YtmlbfepibfobaaaDoorW.PrintMore
set_option linter.unusedVariables false
set_option linter.unusedSimpArgs false

/-! ### the reference's Take -/
def secateurref01_Take.f (l0 : List Int) (a1 : Int) : Option (Int × Int × Int) := leb_Take.f l0 a1
theorem shl_val (n x : Int) (i : Nat) (hn0 : 0 ≤ n) (hn1 : n < 128 ^ i) (hx0 : 0 ≤ x) (hx1 : x < 256) (hi : i ≤ 9) (h9 : i = 9 → x ≤ 1) :
    Go.bits .or .u64 n (shl .u64 (IntKind.u64.wrap (Int.tmod x 128)) (IntKind.u64.wrap (wrap64 (7 * (i : Int))))) = n + x % 128 * 128 ^ i := by
  have hv := take_val n x i hn0 hn1 hx0 hx1 hi h9
  rw [u8_andNot hx0 hx1] at hv
  rw [Int.tmod_eq_emod_of_nonneg hx0, w64 (by omega) (by omega), wu64 (x := 7 * (i : Int)) (by omega) (by omega)]
  unfold shl
  have e : min (7 * (i : Int)).toNat IntKind.u64.bits = 7 * i := by
    have : IntKind.u64.bits = 64 := rfl
    rw [this]
    omega
  rw [e]
  exact hv
theorem takeR_loop (l : List Int) (a : Nat) (hb : l.all byteB = true) (hm : l.length ≤ 281474976710656) (ha : a ≤ l.length) (d : Nat) : ∀ (k i : Nat) (n : Int), 10 - i = d → i ≤ 9 → 2 * d < k → a + i ≤ l.length → 0 ≤ n → n < 128 ^ i →
    Q1.secateurref01_Take.l0 k l a n i = some (takeGo a (l.drop (a + i)) i n) := by
  induction d with
  | zero => intro k i n hd hi; omega
  | succ d ih =>
    intro k i n hd hi hk hl hn0 hn1
    obtain ⟨k, rfl⟩ : ∃ m, k = m + 1 + 1 := ⟨k - 2, by omega⟩
    have e1 : wrap64 ((a : Int) + i) = ((a + i : Nat) : Int) := by rw [w64 (by omega) (by omega)]; push_cast; rfl
    have a1 : 10 - (i + 1) = d := by omega
    have a2 : 2 * d < k := by omega
    simp only [Q1.secateurref01_Take.l0]
    rw [if_pos (by omega), e1]
    by_cases hE : a + i = l.length
    · rw [if_pos (by omega), hE, List.drop_of_length_le (by omega)]
      rfl
    · rw [if_neg (by omega), if_pos (by omega), if_pos (by omega), rd_nat, drop_cons l (i := a + i) (by omega)]
      have hx := byteB_iff.1 (all_getD hb (i := a + i) (by omega))
      generalize l.getD (a + i) 0 = x at hx
      obtain ⟨hx0, hx1⟩ := hx
      simp only [takeGo]
      by_cases hA : i = 9 ∧ 1 < x
      · rw [if_pos hA, if_pos (by omega), decide_eq_true (show x > 1 from hA.2)]
        rw [Q1.secateurref01_Take.j2, if_pos rfl]
      · have hj : (if (i : Int) = 9 then Q1.secateurref01_Take.j2 (k + 1) l a n i x (decide (x > 1)) else Q1.secateurref01_Take.j2 (k + 1) l a n i x false) = Q1.secateurref01_Take.j2 (k + 1) l a n i x false := by
          by_cases h9 : (i : Int) = 9
          · rw [if_pos h9, decide_eq_false (show ¬ x > 1 by omega)]
          · rw [if_neg h9]
        rw [hj, if_neg hA]
        simp only [Q1.secateurref01_Take.j2]
        have hv := shl_val n x i hn0 hn1 hx0 hx1 hi (fun h => by omega)
        have e7 : 0 ≤ IntKind.u64.wrap (wrap64 (7 * (i : Int))) := by
          rw [w64 (by omega) (by omega), wu64 (x := 7 * (i : Int)) (by omega) (by omega)]
          omega
        have e2 : wrap64 (((a + i : Nat) : Int) + 1) = (a : Int) + i + 1 := by rw [w64 (by omega) (by omega)]; push_cast; rfl
        rw [if_neg (by simp), if_pos e7, hv, e1, e2]
        by_cases hL : x < 128
        · rw [if_pos hL]
          by_cases hz : x = 0 ∧ 0 < i
          · rw [if_pos hz.1, if_pos (by omega), if_pos hz]
          · have hm : x % 128 = x := by omega
            rw [if_neg hz, if_pos hL, hm]
            by_cases hx0 : x = 0
            · rw [if_pos hx0, if_neg (by omega)]
            · rw [if_neg hx0]
        · rw [if_neg hL, if_neg (by omega), if_neg hL, w64 (by omega) (by omega)]
          have hm : x % 128 = x - 128 := by omega
          have a3 : i + 1 ≤ 9 := by clear hv e7 e2 hj e1; omega
          have a4 : a + (i + 1) ≤ l.length := by clear hv e7 e2 hj e1; omega
          have hs := take_step n x i hn0 hn1 (by omega) hx1
          have ih := ih k (i + 1) (n + (x - 128) * 128 ^ i) a1 a3 a2 a4 hs.1 hs.2
          rw [show a + (i + 1) = a + i + 1 from by omega] at ih
          push_cast at ih
          rw [hm, ih]
theorem takeR_eq (l : List Int) (a : Int) (hb : l.all byteB = true) (hm : l.length ≤ 281474976710656) : Q1.secateurref01_Take.f 40 l a = some (lebTake l a) := by
  unfold Q1.secateurref01_Take.f lebTake
  by_cases h0 : a < 0
  · rw [if_pos h0, if_pos (.inl h0)]
    rw [Q1.secateurref01_Take.j0, if_pos rfl]
  · rw [if_neg h0]
    by_cases h1 : (l.length : Int) < a
    · rw [if_pos (.inr h1), decide_eq_true (show a > (l.length : Int) from h1)]
      rw [Q1.secateurref01_Take.j0, if_pos rfl]
    · rw [if_neg (by omega), decide_eq_false (show ¬ a > (l.length : Int) from h1)]
      obtain ⟨m, rfl⟩ := Int.eq_ofNat_of_zero_le (show 0 ≤ a by omega)
      simp only [Q1.secateurref01_Take.j0]
      rw [if_neg (by simp)]
      exact takeR_loop l m hb hm (by omega) 10 39 0 0 rfl (by omega) (by omega) (by omega) (by omega) (by decide)
theorem takeR_more (l : List Int) (a : Int) (hb : l.all byteB = true) (hm : l.length ≤ 281474976710656) : ∀ j, Q1.secateurref01_Take.f (j + 40) l a = some (lebTake l a)
  | 0 => takeR_eq l a hb hm
  | j + 1 => by
    have h := Q1.secateurref01_Take.mono l a (j + 40) _ (takeR_more l a hb hm j)
    rw [show j + 1 + 40 = j + 40 + 1 from by omega]
    exact h
theorem secateurref01_Take.calls (A0 : Option Addr) (c0 : Nat) (l0 : List Int) (a1 : Int) (r1 : Int) (r2 : Int) (r3 : Int) (w : World) (hr0 : Kd.C (Kd.int .u8) w A0 l0.length l0) (hc0 : l0.length ≤ c0) (h : secateurref01_Take.f l0 a1 = some (r1, r2, r3)) :
    Calls Tryd.prog 139 #[.slice A0 l0.length c0, .int .i64 a1] w fun e w' => e = .returned (.tuple #[.int .u64 r1, .int .i64 r2, .int .i64 r3]) ∧ Drawn0 w w' := by
  unfold secateurref01_Take.f leb_Take.f at h
  split at h
  · rename_i hg
    exact Q1.secateurref01_Take.calls 40 A0 c0 l0 a1 r1 r2 r3 w hr0 hc0 ((takeR_eq l0 a1 hg.1 hg.2).trans h)
  · cases h

/-! ### Split -/
theorem takeGo_range (a : Int) : ∀ (xs : List Int) (i : Nat) (n : Int), (takeGo a xs i n).2.2 = 0 → a + i < (takeGo a xs i n).2.1 ∧ (takeGo a xs i n).2.1 ≤ a + i + xs.length
  | [], i, n => by intro h; simp [takeGo] at h
  | x :: xs, i, n => by
    unfold takeGo
    split
    · intro h; simp at h
    · split
      · intro h; simp at h
      · split
        · intro _
          simp only [List.length_cons]
          omega
        · intro h
          have := takeGo_range a xs (i + 1) (n + (x - 128) * 128 ^ i) h
          simp only [List.length_cons]
          push_cast at this ⊢
          omega
theorem lebTake_range (l : List Int) (a : Nat) (h : (lebTake l a).2.2 = 0) : (a : Int) < (lebTake l a).2.1 ∧ (lebTake l a).2.1 ≤ l.length := by
  unfold lebTake at h ⊢
  split at h
  · simp at h
  · rename_i hg
    rw [if_neg hg]
    have := takeGo_range a _ 0 0 h
    rw [Int.toNat_natCast, List.length_drop] at this
    rw [Int.toNat_natCast]
    omega
def splitGo (b : List Int) : Nat → Nat → List Int → List Int × Int
  | 0, _, out => (out, 0)
  | f + 1, i, out => if i < b.length then (if (lebTake b i).2.2 = 0 then splitGo b f (lebTake b i).2.1.toNat (out ++ [(lebTake b i).1]) else ([], (lebTake b i).2.2)) else (out, 0)
def lebSplit (b : List Int) : List Int × Int := splitGo b b.length 0 []
def leb_Split.f (l0 : List Int) : Option (List Int × Int) := if l0.all byteB = true ∧ l0.length ≤ 4294967296 then some (lebSplit l0) else none
def secateurref01_Split.f (l0 : List Int) : Option (List Int × Int) := leb_Split.f l0
end Go.Proofs.YtmlbfepibfobaaaDoor.Hand
end

section
namespace Go.Proofs.YtmlbfepibfobaaaDoor.Hand
open Go.RowKit Go.Proofs.YtmlbfepibfobaaaDoorW.PrintWords Go.Proofs.YtmlbfepibfobaaaDoorW.PrintLast Go.Proofs.YtmlbfepibfobaaaDoorW.PrintMore
set_option linter.unusedVariables false
set_option linter.unusedSimpArgs false

/-! ### Plain laws of numbers' bytes -/
theorem u64B_wf {x : Int} (h : (Lit.int .u64 x).wf = true) : u64B x = true := by
  rw [u64B_iff]
  simp [Lit.wf, IntKind.min, IntKind.max, IntKind.signed, IntKind.bits] at h
  omega
theorem byteB_wf {x : Int} (h : (Lit.int .u8 x).wf = true) : byteB x = true := by
  rw [byteB_iff]
  simp [Lit.wf, IntKind.min, IntKind.max, IntKind.signed, IntKind.bits] at h
  omega
theorem bytes_wf {l : List Int} (h : ∀ x ∈ l, (Lit.int .u8 x).wf = true) : l.all byteB = true := List.all_eq_true.2 fun x hx => byteB_wf (h x hx)
theorem u64s_wf {l : List Int} (h : ∀ x ∈ l, (Lit.int .u64 x).wf = true) : l.all u64B = true := List.all_eq_true.2 fun x hx => u64B_wf (h x hx)
theorem i64_wf {x : Int} (h : (Lit.int .i64 x).wf = true) : -9223372036854775808 ≤ x ∧ x < 9223372036854775808 := by
  simp [Lit.wf, IntKind.min, IntKind.max, IntKind.signed, IntKind.bits] at h
  omega
theorem take_some {l : List Int} (a : Int) (hb : l.all byteB = true) (hm : l.length ≤ 281474976710656) : leb_Take.f l a = some (lebTake l a) := by
  unfold leb_Take.f
  rw [if_pos ⟨hb, hm⟩]
theorem takeR_some {l : List Int} (a : Int) (hb : l.all byteB = true) (hm : l.length ≤ 281474976710656) : secateurref01_Take.f l a = some (lebTake l a) := take_some a hb hm
theorem size_some {x : Int} (h : u64B x = true) : leb_Size.f x = some ((lebPut x).length : Int) := by
  unfold leb_Size.f
  rw [if_pos (u64B_iff.1 h)]
theorem putR_some {x : Int} (h : u64B x = true) : secateurref01_Put.f x = some (lebPut x) := put_some h
theorem zag_zig (n : Int) : zagI (zigI n) = n := by
  unfold zagI zigI
  split <;> split <;> omega
theorem zig_zag (u : Int) (h : 0 ≤ u) : zigI (zagI u) = u := by
  unfold zagI zigI
  split <;> split <;> omega
theorem zig_range (n : Int) (h0 : -9223372036854775808 ≤ n) (h1 : n < 9223372036854775808) : 0 ≤ zigI n ∧ zigI n < 18446744073709551616 := by
  unfold zigI
  split <;> omega
theorem zag_range (u : Int) (h0 : 0 ≤ u) (h1 : u < 18446744073709551616) : -9223372036854775808 ≤ zagI u ∧ zagI u < 9223372036854775808 := by
  unfold zagI
  split <;> omega
theorem lebTail_rises (f : Nat) : ∀ (a b : Int), 0 ≤ a → a ≤ b → (lebTail f a).length ≤ (lebTail f b).length := by
  induction f with
  | zero => intro a b _ _; exact Nat.le_refl _
  | succ f ih =>
    intro a b ha hab
    simp only [lebTail]
    by_cases h1 : a / 128 = 0
    · rw [if_pos h1]
      split <;> simp
    · rw [if_neg h1, if_neg (by omega)]
      simp only [List.length_cons]
      have := ih (a / 128) (b / 128) (by omega) (by omega)
      omega

/-- The bytes of a number, wherever they stand. -/
theorem take_put (a : Int) (xs : List Int) (f : Nat) : ∀ (m n : Int) (i : Nat), i + f = 10 → 0 < f → 0 ≤ m → m < 128 ^ f → (0 < m ∨ i = 0) → (m * 128 ^ i < 18446744073709551616) →
    takeGo a (lebTail f m ++ xs) i n = (n + m * 128 ^ i, a + i + (lebTail f m).length, 0) := by
  induction f with
  | zero => intro m n i _ h0; exact absurd h0 (by omega)
  | succ f ih =>
    intro m n i hi _ h0 h1 hp hu
    have h9 : i = 9 → m ≤ 1 := by
      rintro rfl
      have e : (128 : Int) ^ 9 = 9223372036854775808 := by decide
      rw [e] at hu
      omega
    simp only [lebTail]
    by_cases hz : m / 128 = 0
    · have hm : m % 128 = m := by omega
      rw [if_pos hz, hm]
      simp only [List.cons_append, List.nil_append, takeGo]
      rw [if_neg (by omega), if_neg (by omega), if_pos (by omega)]
      simp only [List.length_cons, List.length_nil, Prod.mk.injEq, true_and, and_true]
      push_cast
      omega
    · rw [if_neg hz]
      simp only [List.cons_append, takeGo]
      have hf : 0 < f := by
        rcases Nat.eq_zero_or_pos f with h | h
        · subst h; simp at h1; omega
        · exact h
      have h2 : m / 128 < 128 ^ f := by rw [Int.pow_succ] at h1; omega
      have e : m * 128 ^ i = (m % 128) * 128 ^ i + (m / 128) * 128 ^ (i + 1) := by
        have e1 : m = m % 128 + 128 * (m / 128) := by omega
        conv => lhs; rw [e1]
        rw [Int.add_mul, Int.pow_succ, Int.mul_comm (128 ^ i) 128, ← Int.mul_assoc, Int.mul_comm (m / 128) 128]
      have hp0 : (0 : Int) ≤ m % 128 * 128 ^ i := Int.mul_nonneg (by omega) (Int.pow_nonneg (by decide))
      rw [if_neg (by omega), if_neg (by omega), if_neg (by omega), ih (m / 128) _ (i + 1) (by omega) hf (by omega) h2 (.inl (by omega)) (by omega)]
      have e3 : m % 128 + 128 - 128 = m % 128 := by omega
      rw [e3]
      simp only [List.length_cons, Prod.mk.injEq, and_true]
      constructor
      · omega
      · push_cast
        omega

/-- What is taken was put so. -/
theorem put_take (a : Int) (xs : List Int) : ∀ (i : Nat) (n : Int), xs.all byteB = true → i ≤ 9 → (takeGo a xs i n).2.2 = 0 →
    ∃ (m : Int) (c : Nat), takeGo a xs i n = (n + m * 128 ^ i, a + i + c, 0) ∧ c ≤ xs.length ∧ xs.take c = lebTail (10 - i) m ∧ 0 ≤ m ∧ m < 128 ^ (10 - i) ∧ (0 < m ∨ i = 0) ∧ m < 2 * 128 ^ (9 - i) := by
  induction xs with
  | nil => intro i n _ _ h; simp [takeGo] at h
  | cons x xs ih =>
    intro i n hb hi h
    simp only [List.all_cons, Bool.and_eq_true] at hb
    obtain ⟨hx0, hx1⟩ := byteB_iff.1 hb.1
    simp only [takeGo] at h ⊢
    obtain ⟨g, hg⟩ : ∃ g, 10 - i = g + 1 := ⟨9 - i, by omega⟩
    by_cases hA : i = 9 ∧ 1 < x
    · rw [if_pos hA] at h; simp at h
    · rw [if_neg hA] at h ⊢
      by_cases hB : x = 0 ∧ 0 < i
      · rw [if_pos hB] at h; simp at h
      · rw [if_neg hB] at h ⊢
        by_cases hL : x < 128
        · rw [if_pos hL]
          refine ⟨x, 1, by simp, by simp, ?_, hx0, ?_, by omega, ?_⟩
          · rw [hg]
            have hz : x / 128 = 0 := by omega
            have hm : x % 128 = x := by omega
            simp only [lebTail, if_pos hz, hm]
            simp
          · rw [hg, Int.pow_succ]
            have : (0 : Int) < 128 ^ g := Int.pow_pos (by decide)
            omega
          · by_cases h9 : i = 9
            · subst h9
              simp
              omega
            · obtain ⟨g2, hg2⟩ : ∃ g2, 9 - i = g2 + 1 := ⟨8 - i, by omega⟩
              rw [hg2, Int.pow_succ]
              have : (0 : Int) < 128 ^ g2 := Int.pow_pos (by decide)
              omega
        · rw [if_neg hL] at h ⊢
          obtain ⟨m, c, h1, h2, h3, h4, h5, h6, h7⟩ := ih (i + 1) _ hb.2 (by omega) h
          have hgi : 10 - (i + 1) = g := by omega
          rw [hgi] at h3 h5
          have hmp : 0 < m := by omega
          refine ⟨(x - 128) + 128 * m, c + 1, ?_, by simp; omega, ?_, by omega, ?_, .inl (by omega), ?_⟩
          · rw [h1]
            simp only [Prod.mk.injEq, and_true]
            constructor
            · rw [Int.pow_succ, Int.add_mul, Int.mul_comm (128 ^ i) 128, ← Int.mul_assoc, Int.mul_comm m 128]
              omega
            · push_cast
              omega
          · rw [hg, List.take_succ_cons, h3]
            have hz : (x - 128 + 128 * m) / 128 = m := by omega
            have hm : (x - 128 + 128 * m) % 128 = x - 128 := by omega
            simp only [lebTail, hz, hm]
            rw [if_neg (by omega)]
            congr 1
            omega
          · rw [hg, Int.pow_succ]
            omega
          · have h8 : i ≠ 9 := by
              rintro rfl
              simp at h7 h5
              have : g = 0 := by omega
              subst this
              simp at h5
              omega
            obtain ⟨g2, hg2⟩ : ∃ g2, 9 - i = g2 + 1 := ⟨8 - i, by omega⟩
            have hg3 : 9 - (i + 1) = g2 := by omega
            rw [hg3] at h7
            rw [hg2, Int.pow_succ]
            omega
theorem lebTake_put (n : Int) (h : u64B n = true) (p q : List Int) : lebTake (p ++ lebPut n ++ q) p.length = (n, (p.length : Int) + (lebPut n).length, 0) := by
  obtain ⟨h0, h1⟩ := u64B_iff.1 h
  unfold lebTake
  rw [if_neg (by simp; omega), Int.toNat_natCast, List.append_assoc, List.drop_left]
  have := take_put p.length q 10 n 0 0 (by omega) (by omega) h0 (by rw [p128_10]; omega) (.inr rfl) (by simpa using h1)
  unfold lebPut
  rw [this]
  simp
theorem lebPut_take (l : List Int) (a : Nat) (hb : l.all byteB = true) (h : (lebTake l a).2.2 = 0) : u64B (lebTake l a).1 = true ∧ ∃ c : Nat, (lebTake l a).2.1 = (a : Int) + c ∧ 0 < c ∧ a + c ≤ l.length ∧ lebPut (lebTake l a).1 = (l.drop a).take c := by
  have hr := lebTake_range l a h
  unfold lebTake at h hr ⊢
  by_cases ho : (a : Int) < 0 ∨ (l.length : Int) < a
  · rw [if_pos ho] at h; simp at h
  · rw [if_neg ho] at h hr ⊢
    rw [Int.toNat_natCast] at h hr ⊢
    have hb2 : (l.drop a).all byteB = true := List.all_eq_true.2 fun x hx => List.all_eq_true.1 hb x (List.mem_of_mem_drop hx)
    obtain ⟨m, c, h1, h2, h3, h4, h5, h6, h7⟩ := put_take a (l.drop a) 0 0 hb2 (by omega) h
    rw [h1] at hr ⊢
    simp only [Int.pow_zero, Int.mul_one, Int.zero_add] at hr ⊢
    have hm : m < 18446744073709551616 := by
      have e : (2 : Int) * 128 ^ (9 - 0) = 18446744073709551616 := by decide
      rw [e] at h7
      exact h7
    exact ⟨u64B_iff.2 ⟨h4, hm⟩, c, by omega, by omega, by omega, h3.symm⟩

theorem split_join_go (l : List Int) : ∀ (f i : Nat) (p out : List Int), i = p.length → l.all u64B = true → (lebJoin l).length ≤ f → splitGo (p ++ lebJoin l) f i out = (out ++ l, 0) := by
  induction l with
  | nil =>
    intro f i p out hi _ _
    have e : lebJoin [] = [] := rfl
    rw [e, List.append_nil, List.append_nil]
    cases f with
    | zero => rfl
    | succ f => rw [splitGo, if_neg (by omega)]
  | cons x l ih =>
    intro f i p out hi hb hf
    simp only [List.all_cons, Bool.and_eq_true] at hb
    have e : lebJoin (x :: l) = lebPut x ++ lebJoin l := rfl
    have hpos : 0 < (lebPut x).length := lebTail_length_pos 10 x (by omega)
    rw [e, List.length_append] at hf
    obtain ⟨f, rfl⟩ : ∃ g, f = g + 1 := ⟨f - 1, by omega⟩
    have ht := lebTake_put x hb.1 p (lebJoin l)
    rw [List.append_assoc] at ht
    rw [e, splitGo, if_pos (by simp only [List.length_append]; omega), hi, ht]
    rw [if_pos rfl, ← List.append_assoc, ih f _ (p ++ lebPut x) (out ++ [x]) (by show ((p.length : Int) + (lebPut x).length).toNat = _; rw [List.length_append]; omega) hb.2 (by omega), List.append_assoc]
    rfl
theorem split_join (l : List Int) (h : l.all u64B = true) : lebSplit (lebJoin l) = (l, 0) := by
  have := split_join_go l (lebJoin l).length 0 [] [] rfl h (Nat.le_refl _)
  simpa [lebSplit] using this
theorem join_split_go (b : List Int) (hb : b.all byteB = true) (f : Nat) : ∀ (i : Nat) (out : List Int), b.length - i ≤ f → i ≤ b.length → (splitGo b f i out).2 = 0 →
    ∃ l, (splitGo b f i out).1 = out ++ l ∧ l.all u64B = true ∧ lebJoin l = b.drop i ∧ l.length ≤ b.length - i := by
  induction f with
  | zero =>
    intro i out hd hi _
    exact ⟨[], by simp [splitGo], rfl, by rw [List.drop_of_length_le (by omega)]; rfl, by simp⟩
  | succ f ih =>
    intro i out hd hi h
    rw [splitGo] at h ⊢
    by_cases hlt : i < b.length
    · rw [if_pos hlt] at h ⊢
      by_cases he : (lebTake b i).2.2 = 0
      · rw [if_pos he] at h ⊢
        obtain ⟨hu, c, hc, hc0, hcl, hp⟩ := lebPut_take b i hb he
        have hj : (lebTake b i).2.1.toNat = i + c := by omega
        rw [hj] at h ⊢
        obtain ⟨l, h1, h2, h3, h4⟩ := ih (i + c) _ (by omega) (by omega) h
        refine ⟨(lebTake b i).1 :: l, by rw [h1, List.append_assoc]; rfl, by rw [List.all_cons, hu, h2]; rfl, ?_, by rw [List.length_cons]; omega⟩
        have e : lebJoin ((lebTake b i).1 :: l) = lebPut (lebTake b i).1 ++ lebJoin l := rfl
        rw [e, hp, h3, ← List.drop_drop, List.take_append_drop]
      · rw [if_neg he] at h
        exact absurd h he
    · rw [if_neg hlt]
      exact ⟨[], by simp, rfl, by rw [List.drop_of_length_le (by omega)]; rfl, by simp⟩
theorem join_split (b : List Int) (hb : b.all byteB = true) (h : (lebSplit b).2 = 0) : (lebSplit b).1.all u64B = true ∧ lebJoin (lebSplit b).1 = b ∧ (lebSplit b).1.length ≤ b.length := by
  obtain ⟨l, h1, h2, h3, h4⟩ := join_split_go b hb b.length 0 [] (by omega) (by omega) h
  unfold lebSplit
  rw [h1, List.nil_append]
  exact ⟨h2, h3, h4⟩
theorem lebTail_bytes (f : Nat) : ∀ m : Int, (lebTail f m).all byteB = true := by
  induction f with
  | zero => intro m; rfl
  | succ f ih =>
    intro m
    simp only [lebTail]
    split
    · simp only [List.all_cons, List.all_nil, Bool.and_true]
      exact byteB_iff.2 (by omega)
    · rw [List.all_cons, ih, Bool.and_true]
      exact byteB_iff.2 (by omega)
theorem lebPut_bytes (n : Int) : (lebPut n).all byteB = true := lebTail_bytes 10 n
theorem lebJoin_bytes (l : List Int) : (lebJoin l).all byteB = true := by
  unfold lebJoin
  induction l with
  | nil => rfl
  | cons x l ih => rw [List.flatMap_cons, List.all_append, lebPut_bytes, ih]; rfl
end Go.Proofs.YtmlbfepibfobaaaDoor.Hand
end

section
namespace Go.Proofs.YtmlbfepibfobaaaDoor.Hand
open Go.RowKit Go.Proofs.YtmlbfepibfobaaaDoorW.PrintWords Go.Proofs.YtmlbfepibfobaaaDoorW.PrintLast Go.Proofs.YtmlbfepibfobaaaDoorW.PrintMore
set_option linter.unusedVariables false
set_option linter.unusedSimpArgs false

/-! ### The sum's plain mathematics: one bit, four bits, a byte -/
abbrev B32 := BitVec 32
def bit1 (s : B32) : B32 := (s >>> 1) ^^^ (if s.getLsbD 0 = true then 0xEDB88320#32 else 0#32)
def bit4 (s : B32) : B32 := bit1 (bit1 (bit1 (bit1 s)))
def bit8 (s : B32) : B32 := bit4 (bit4 s)
theorem xor4 (a b c d : B32) : (a ^^^ b) ^^^ (c ^^^ d) = (a ^^^ c) ^^^ (b ^^^ d) := by
  rw [BitVec.xor_assoc, BitVec.xor_assoc]
  congr 1
  rw [← BitVec.xor_assoc, ← BitVec.xor_assoc, BitVec.xor_comm b c]
theorem bit1_xor (a b : B32) : bit1 (a ^^^ b) = bit1 a ^^^ bit1 b := by
  unfold bit1
  rw [BitVec.ushiftRight_xor_distrib, xor4]
  congr 1
  rw [BitVec.getLsbD_xor]
  cases a.getLsbD 0 <;> cases b.getLsbD 0 <;> simp
theorem bit4_xor (a b : B32) : bit4 (a ^^^ b) = bit4 a ^^^ bit4 b := by unfold bit4; simp only [bit1_xor]
theorem bit8_xor (a b : B32) : bit8 (a ^^^ b) = bit8 a ^^^ bit8 b := by unfold bit8; simp only [bit4_xor]
theorem bit1_zero : bit1 0#32 = 0#32 := by decide
theorem bit8_zero : bit8 0#32 = 0#32 := by decide
theorem bit1_even (s : B32) (h : s.getLsbD 0 = false) : bit1 s = s >>> 1 := by
  unfold bit1
  rw [h]
  simp
/-- Where the lowest four bits are none, four steps only shift. -/
theorem bit4_high (s : B32) (h : s.getLsbD 0 = false ∧ s.getLsbD 1 = false ∧ s.getLsbD 2 = false ∧ s.getLsbD 3 = false) : bit4 s = s >>> 4 := by
  obtain ⟨h0, h1, h2, h3⟩ := h
  unfold bit4
  rw [bit1_even s h0, bit1_even (s >>> 1) (by simpa using h1), bit1_even (s >>> 1 >>> 1) (by simpa using h2), bit1_even (s >>> 1 >>> 1 >>> 1) (by simpa using h3)]
  rw [← BitVec.shiftRight_add, ← BitVec.shiftRight_add, ← BitVec.shiftRight_add]
theorem bit4_split (s : B32) : bit4 s = (s >>> 4) ^^^ bit4 (s &&& 15#32) := by
  have e : s = (s &&& ~~~15#32) ^^^ (s &&& 15#32) := by
    apply BitVec.eq_of_getLsbD_eq
    intro i hi
    simp only [BitVec.getLsbD_xor, BitVec.getLsbD_and, BitVec.getLsbD_not]
    cases s.getLsbD i <;> cases (15#32).getLsbD i <;> simp [hi]
  conv => lhs; rw [e]
  rw [bit4_xor]
  congr 1
  rw [bit4_high _ (by simp only [BitVec.getLsbD_and, BitVec.getLsbD_not]; refine ⟨?_, ?_, ?_, ?_⟩ <;> simp)]
  apply BitVec.eq_of_getLsbD_eq
  intro i hi
  simp only [BitVec.getLsbD_ushiftRight, BitVec.getLsbD_and, BitVec.getLsbD_not]
  by_cases h : 4 + i < 32
  · have : (15#32).getLsbD (4 + i) = false := by
      have : ∀ j : Fin 28, (15#32).getLsbD (4 + j.val) = false := by decide
      exact this ⟨i, by omega⟩
    have this2 : (15#32)[4 + i] = false := by rw [← BitVec.getLsbD_eq_getElem h]; exact this
    simp [this, this2, h]
  · rw [BitVec.getLsbD_of_ge _ _ (by omega)]
    simp
/-- One bit's step goes from no two states to one. -/
theorem bit1_inj0 (s : B32) (h : bit1 s = 0#32) : s = 0#32 := by
  unfold bit1 at h
  cases hb : s.getLsbD 0 with
  | true =>
    rw [hb] at h
    simp only [if_true] at h
    have h2 : (s >>> 1) = 0xEDB88320#32 := BitVec.xor_eq_zero_iff.1 h
    have h3 := congrArg (fun x : B32 => x.getLsbD 31) h2
    simp [BitVec.getLsbD_of_ge] at h3
  | false =>
    rw [hb] at h
    simp only [Bool.false_eq_true, if_false, BitVec.xor_zero] at h
    apply BitVec.eq_of_getLsbD_eq
    intro i hi
    rw [BitVec.getLsbD_zero]
    rcases Nat.eq_zero_or_pos i with rfl | hp
    · exact hb
    · have h3 := congrArg (fun x : B32 => x.getLsbD (i - 1)) h
      simp only [BitVec.getLsbD_ushiftRight, BitVec.getLsbD_zero] at h3
      rwa [show 1 + (i - 1) = i from by omega] at h3
theorem bit8_inj0 (s : B32) (h : bit8 s = 0#32) : s = 0#32 := by
  unfold bit8 bit4 at h
  exact bit1_inj0 _ (bit1_inj0 _ (bit1_inj0 _ (bit1_inj0 _ (bit1_inj0 _ (bit1_inj0 _ (bit1_inj0 _ (bit1_inj0 _ h)))))))

/-- The state behind some more bytes. -/
def crcAdd (s : B32) : List Int → B32
  | [] => s
  | x :: l => crcAdd (bit8 (s ^^^ BitVec.ofInt 32 x)) l
theorem crcAdd_append (s : B32) (a b : List Int) : crcAdd s (a ++ b) = crcAdd (crcAdd s a) b := by
  induction a generalizing s with
  | nil => rfl
  | cons x a ih => simp only [List.cons_append, crcAdd]; exact ih _
def crcSum (l : List Int) : Int := ((~~~ crcAdd (BitVec.allOnes 32) l).toNat : Int)
def crcFour : List Int := [0, 498536548, 997073096, 651767980, 1994146192, 1802195444, 1303535960, 1342533948, 3988292384, 4027552580, 3604390888, 3412177804, 2607071920, 2262029012, 2685067896, 3183342108]
theorem crcFour_eq : ∀ i : Fin 16, BitVec.ofInt 32 (crcFour.getD i.val 0) = bit4 (BitVec.ofNat 32 i.val) := by decide +kernel
end Go.Proofs.YtmlbfepibfobaaaDoor.Hand
end

section
namespace Go.Proofs.YtmlbfepibfobaaaDoor.Hand
open Go.RowKit Go.Proofs.YtmlbfepibfobaaaDoorW.PrintWords Go.Proofs.YtmlbfepibfobaaaDoorW.PrintLast Go.Proofs.YtmlbfepibfobaaaDoorW.PrintMore
set_option linter.unusedVariables false
set_option linter.unusedSimpArgs false

/-- The table stands in the world as the text lays it. -/
def CrcTab (w : World) : Prop := ∀ i : Nat, i < 16 → w.cell? ⟨1, i, none⟩ = some (.int .u32 (crcFour.getD i 0))
theorem CrcTab.below {w w' : World} (h : CrcTab w) (hb : Below w.heap.size w w') : CrcTab w' := fun i hi => pw_cell_below hb (h i hi)
theorem CrcTab.drawn {w w' : World} (h : CrcTab w) (hd : Drawn0 w w') : CrcTab w' := h.below hd.below

theorem wu32 {x : Int} (h0 : 0 ≤ x) (h1 : x < 4294967296) : IntKind.u32.wrap x = x := by
  simp [IntKind.wrap, IntKind.bits, IntKind.signed]
  omega
theorem p32 : (2 : Int) ^ 32 = 4294967296 := by decide
theorem b32_range (s : B32) : 0 ≤ (s.toNat : Int) ∧ (s.toNat : Int) < 4294967296 := by
  have := s.isLt
  omega
theorem b32_of (s : B32) : BitVec.ofInt 32 (s.toNat : Int) = s := by simp
theorem toNat_of {a : Int} (h0 : 0 ≤ a) (h1 : a < 4294967296) : ((BitVec.ofInt 32 a).toNat : Int) = a := by
  rw [BitVec.toNat_ofInt]
  have : ((2 ^ 32 : Nat) : Int) = 4294967296 := by decide
  rw [this]
  omega
theorem u32_xor {a b : Int} : Go.bits .xor .u32 a b = ((BitVec.ofInt 32 a ^^^ BitVec.ofInt 32 b).toNat : Int) := by
  show IntKind.u32.wrap _ = _
  exact wu32 (b32_range _).1 (b32_range _).2
theorem u32_and15 {a : Int} (h0 : 0 ≤ a) (h1 : a < 4294967296) : Go.bits .and .u32 a 15 = a % 16 := by
  have := Go.bits_mask .u32 32 (by decide) (fun n h0 h1 => wu32 h0 (by rw [p32] at h1; exact h1)) 4 (by decide) a h0 (by rw [p32]; exact h1)
  exact this
def crc_half.f (a0 : Int) : Option Int := if 0 ≤ a0 ∧ a0 < 4294967296 then some ((bit4 (BitVec.ofInt 32 a0)).toNat : Int) else none
theorem half_val {a : Int} (h0 : 0 ≤ a) (h1 : a < 4294967296) (i : Nat) (hi : (i : Int) = a % 16) : Go.bits .xor .u32 (a / 16) (crcFour.getD i 0) = ((bit4 (BitVec.ofInt 32 a)).toNat : Int) := by
  have hlt : i < 16 := by omega
  rw [u32_xor, crcFour_eq ⟨i, hlt⟩, bit4_split (BitVec.ofInt 32 a)]
  have e1 : BitVec.ofInt 32 (a / 16) = BitVec.ofInt 32 a >>> 4 := by
    apply BitVec.eq_of_toNat_eq
    rw [BitVec.toNat_ushiftRight, Nat.shiftRight_eq_div_pow]
    have e2 := toNat_of h0 h1
    have e3 := toNat_of (a := a / 16) (by omega) (by omega)
    omega
  have e2 : BitVec.ofNat 32 i = BitVec.ofInt 32 a &&& 15#32 := by
    apply BitVec.eq_of_toNat_eq
    rw [BitVec.toNat_and, BitVec.toNat_ofNat]
    have e2 := toNat_of h0 h1
    have e4 : (15#32).toNat = 2 ^ 4 - 1 := by decide
    rw [e4, Nat.and_two_pow_sub_one_eq_mod]
    omega
  rw [e1, e2]
set_option maxHeartbeats 8000000 in
set_option maxRecDepth 100000 in
theorem crc_half.calls (a0 : Int) (r : Int) (w : World) (hGCrcTab : CrcTab w) (h : crc_half.f a0 = some r) :
    Calls Tryd.prog 148 #[.int .u32 a0] w fun e w' => e = .returned (.int .u32 r) ∧ Drawn0 w w' := by
  unfold crc_half.f at h
  split at h
  · rename_i hg
    obtain ⟨h0, h1⟩ := hg
    obtain ⟨i, hi⟩ := Int.eq_ofNat_of_zero_le (show 0 ≤ a0 % 16 by omega)
    have hlt : i < 16 := by omega
    have hc := hGCrcTab i hlt
    have ha : Go.bits .and .u32 a0 15 = (i : Int) := (u32_and15 h0 h1).trans hi
    have HV := Lib.hid ((half_val h0 h1 i hi.symm).trans (Option.some.inj h))
    obtain ⟨t, ht⟩ : ∃ t, t = crcFour.getD i 0 := ⟨_, rfl⟩
    rw [← ht] at HV hc
    clear ht
    have hal : Tryd.prog.arrayLen 163 = 16 := by kernel_rfl
    clear hGCrcTab h
    have HI := Lib.hid hi
    clear hi
    have hir : (i : Int) < 16 := by omega
    go_enter Tryd.func148, Tryd.ntmps148
    go_wp2
    go_ret
    exact ⟨by rw [HV.out]; rfl, Drawn0.refl _⟩
  · cases h
end Go.Proofs.YtmlbfepibfobaaaDoor.Hand
end

section
-- Written by this session's program layer.py (the kit's print, turned), not by hand.
namespace Go.Proofs.YtmlbfepibfobaaaDoor.Q2
open Go.RowKit Go.Proofs.YtmlbfepibfobaaaDoorW.PrintWords Go.Proofs.YtmlbfepibfobaaaDoorW.PrintLast Go.Proofs.YtmlbfepibfobaaaDoorW.PrintMore Go.Proofs.YtmlbfepibfobaaaDoor.Hand
attribute [local go_sem] max2_int min2_int max_two min_two max_three min_three max_four min_four   -- for this text's walks alone
set_option linter.unusedVariables false
set_option linter.unusedSimpArgs false



def errW : Option Int → Value
  | none => .nilIface
  | some c => .iface 0 (.int .i64 c)
theorem errW_none : errW none = .nilIface := rfl
theorem errW_some (c : Int) : errW (some c) = .iface 0 (.int .i64 c) := rfl

-- the values' own types

end Go.Proofs.YtmlbfepibfobaaaDoor.Q2
end

section
-- Written by this session's program layer.py (the kit's print, turned), not by hand.
namespace Go.Proofs.YtmlbfepibfobaaaDoor.Q2
open Go.RowKit Go.Proofs.YtmlbfepibfobaaaDoorW.PrintWords Go.Proofs.YtmlbfepibfobaaaDoorW.PrintLast Go.Proofs.YtmlbfepibfobaaaDoorW.PrintMore Go.Proofs.YtmlbfepibfobaaaDoor.Hand
attribute [local go_sem] max2_int min2_int max_two min_two max_three min_three max_four min_four   -- for this text's walks alone
set_option linter.unusedVariables false
set_option linter.unusedSimpArgs false

/-! ### crc_Begin: function 137 -/
def crc_Begin.f  : Option (Int) := some 4294967295
set_option maxHeartbeats 8000000 in
set_option maxRecDepth 100000 in
theorem crc_Begin.calls  (r : Int) (w : World) (h : crc_Begin.f  = some r) :
    Calls Tryd.prog 137 #[] w fun e w' => e = .returned (.int .u32 r) ∧ Drawn0 w w' := by
  have H : (some 4294967295) = some r := h
  clear h
  obtain rfl := Option.some.inj H
  go_enter Tryd.func137, Tryd.ntmps137
  go_wp2
  go_ret
  exact ⟨by first | rfl | (simp; done) | (simp [*]; done), by repeat (first | exact Drawn0.refl _ | apply Drawn0.step)⟩

/-! ### crc_End: function 135 -/
def crc_End.f (a0 : Int) : Option (Int) := some (Go.bits .xor .u32 a0 4294967295)
set_option maxHeartbeats 8000000 in
set_option maxRecDepth 100000 in
theorem crc_End.calls (a0 : Int) (r : Int) (w : World) (h : crc_End.f a0 = some r) :
    Calls Tryd.prog 135 #[.int .u32 a0] w fun e w' => e = .returned (.int .u32 r) ∧ Drawn0 w w' := by
  have H : (some (Go.bits .xor .u32 a0 4294967295)) = some r := h
  clear h
  obtain rfl := Option.some.inj H
  go_enter Tryd.func135, Tryd.ntmps135
  go_wp2
  go_ret
  exact ⟨by first | rfl | (simp; done) | (simp [*]; done), by repeat (first | exact Drawn0.refl _ | apply Drawn0.step)⟩

-- BY HAND: function 148 (crc_half)

/-! ### crc_Add: function 136 -/
def crc_Add.l0 : Nat → Int → List Int → Int → Int → Option (Int)
  | 0, _, _, _, _ => none
  | k + 1, x0, x7, x8, x9 => if x9 < x8 then (if 0 ≤ x9 then (if x9 < (x7.length : Int) then ((crc_half.f (Go.bits .xor .u32 x0 ((rd x7 x9) % 4294967296))).bind fun t102 => ((crc_half.f t102).bind fun t103 => (crc_Add.l0 k t103 x7 x8 (wrap64 (x9 + 1))))) else (none)) else (none)) else (some x0)
def crc_Add.f (k : Nat) (a0 : Int) (l1 : List Int) : Option (Int) := crc_Add.l0 k a0 l1 (l1.length : Int) 0
theorem crc_Add.mono_l : ∀ k, (∀ y0 y1 y2 y3, LeO (crc_Add.l0 k y0 y1 y2 y3) (crc_Add.l0 (k + 1) y0 y1 y2 y3))
  | 0 => fun _ _ _ _ r h => by simp [crc_Add.l0] at h
  | k + 1 => by
    have ih0 := crc_Add.mono_l k
    · intro y0 y1 y2 y3
      unfold crc_Add.l0
      repeat' first
      | (with_reducible exact ih0 _ _ _ _)
      | (with_reducible exact LeO.refl _)
      | (with_reducible exact LeO.none _)
      | (with_reducible refine LeO.ite ?_ ?_)
      | (with_reducible refine LeO.bind ?_ (fun _ => ?_))
      | exact ih0 _ _ _ _
      | exact LeO.none _
      | refine LeO.ite ?_ ?_
      | refine LeO.bind ?_ (fun _ => ?_)
theorem crc_Add.mono : ∀ a0 a1 k, LeO (crc_Add.f k a0 a1) (crc_Add.f (k + 1) a0 a1) := by
  intro a0 a1 k
  have ih0 := crc_Add.mono_l k
  unfold crc_Add.f
  repeat' first
      | (with_reducible exact ih0 _ _ _ _)
      | (with_reducible exact LeO.refl _)
      | (with_reducible exact LeO.none _)
      | (with_reducible refine LeO.ite ?_ ?_)
      | (with_reducible refine LeO.bind ?_ (fun _ => ?_))
      | exact ih0 _ _ _ _
      | exact LeO.none _
      | refine LeO.ite ?_ ?_
      | refine LeO.bind ?_ (fun _ => ?_)
set_option maxHeartbeats 8000000 in
set_option maxRecDepth 100000 in
theorem crc_Add.calls (k : Nat) (a0 : Int) (A1 : Option Addr) (c1 : Nat) (l1 : List Int) (r : Int) (w : World) (hr1 : Kd.C (Kd.int .u8) w A1 l1.length l1) (hc1 : l1.length ≤ c1) (hGCrcTab : CrcTab w) (h : crc_Add.f k a0 l1 = some r) :
    Calls Tryd.prog 136 #[.int .u32 a0, .slice A1 l1.length c1] w fun e w' => e = .returned (.int .u32 r) ∧ Drawn0 w w' := by
  have HGCrcTab := Aside0.mk hGCrcTab
  clear hGCrcTab
  have HR1 := Aside0.mk hr1
  have HC1 := Aside0.mk hc1
  clear hr1 hc1
  have H : (crc_Add.l0 k a0 l1 (l1.length : Int) 0) = some r := h
  clear h
  have H' := Aside0.mk H
  clear H
  go_enter Tryd.func136, Tryd.ntmps136
  go_wp2
  go_loopg [0, 9] k (fun kq v0 v9 w' => ∃ (x0_1 : Int) (x9_1 : Int), v0 = .int .u32 x0_1 ∧ v9 = .int .i64 x9_1 ∧ Aside0 (crc_Add.l0 kq x0_1 l1 (l1.length : Int) x9_1 = some r) ∧ Aside0 (kq ≤ k) ∧ Drawn0 w w')
  case atStart => exact ⟨(a0), (0), (by first | rfl | (simp; done) | (simp [*]; done)), (by first | rfl | (simp; done) | (simp [*]; done)), H', ⟨Nat.le_refl _⟩, by repeat (first | exact Drawn0.refl _ | apply Drawn0.step)⟩
  case round =>
    clear H'
    try clear c1
    try clear p2
    obtain ⟨x0_1, x9_1, rfl, rfl, HA, HK1, ⟨m1, rfl⟩⟩ := hrel
    cases gk with
    | zero => exact absurd HA.out (by simp [crc_Add.l0])
    | succ k1 =>
      have H := HA.out
      clear HA
      simp only [crc_Add.l0] at H
      by_cases c3 : x9_1 < (l1.length : Int)
      · rw [if_pos c3] at H
        have c3b0 : decide (x9_1 < (l1.length : Int)) = true := decide_eq_true c3
        clear c3
        by_cases c4 : 0 ≤ x9_1
        · rw [if_pos c4] at H
          have c4b0 : decide (0 ≤ x9_1) = true := decide_eq_true c4
          clear c4
          by_cases c5 : x9_1 < (l1.length : Int)
          · rw [if_pos c5] at H
            have c5b0 : decide (x9_1 < (l1.length : Int)) = true := decide_eq_true c5
            clear c5
            replace H := Option.bind_eq_some_iff.mp H
            obtain ⟨t102, A60, H⟩ := H
            replace H : ((crc_half.f t102).bind fun t103 => (crc_Add.l0 k1 t103 l1 (l1.length : Int) (wrap64 (x9_1 + 1)))) = some r := H
            have A6 := Aside0.mk A60
            clear A60
            replace H := Option.bind_eq_some_iff.mp H
            obtain ⟨t103, A70, H⟩ := H
            replace H : (crc_Add.l0 k1 t103 l1 (l1.length : Int) (wrap64 (x9_1 + 1))) = some r := H
            have A7 := Aside0.mk A70
            clear A70
            have H' := Aside0.mk H
            clear H
            have p101 : 0 ≤ (x9_1 : Int) := of_decide_eq_true (by first | (with_reducible assumption) | assumption)
            have q101 : x9_1 < (l1.length : Int) := of_decide_eq_true (by first | (with_reducible assumption) | assumption)
            obtain ⟨ad101, e101, hx101_0⟩ := Kd.at_int HR1.out x9_1 p101 q101
            cases e101
            replace p101 := eq_true p101
            replace q101 := eq_true q101
            go_wp2_with (first | ((with_reducible refine gate_callee (f := 148) rfl ?_); refine goesL_ (some 17) rfl rfl Tryd.func148 (by kernel_rfl) rfl #[.int .u32 (Go.bits .xor .u32 x0_1 ((rd l1 x9_1) % 4294967296))] rfl (by (try simp only [List.map_toArray, List.map_cons, List.map_nil]); first | done | rfl | (simp only [List.length_drop, List.length_take]; rfl)) ?_; (with_reducible refine (crc_half.calls (Go.bits .xor .u32 x0_1 ((rd l1 x9_1) % 4294967296)) t102 _ ?side1 A6.out).mono ?_); (case side1 => first | exact HGCrcTab.out | exact CrcTab.drawn HGCrcTab.out (by repeat (first | exact Drawn0.refl _ | apply Drawn0.step))); rintro e w' ⟨rfl, ⟨nd, rfl⟩⟩; refine ⟨_, rfl, ?_⟩) | ((with_reducible refine gate_callee (f := 148) rfl ?_); refine goesL_ (some 18) rfl rfl Tryd.func148 (by kernel_rfl) rfl #[.int .u32 t102] rfl (by (try simp only [List.map_toArray, List.map_cons, List.map_nil]); first | done | rfl | (simp only [List.length_drop, List.length_take]; rfl)) ?_; (with_reducible refine (crc_half.calls t102 t103 _ ?side1 A7.out).mono ?_); (case side1 => first | exact HGCrcTab.out | exact CrcTab.drawn HGCrcTab.out (by repeat (first | exact Drawn0.refl _ | apply Drawn0.step))); rintro e w' ⟨rfl, ⟨nd, rfl⟩⟩; refine ⟨_, rfl, ?_⟩))
            go_roundg k1
            case measure => have := HK1.out; omega
            case rel => exact ⟨(t103), (wrap64 (x9_1 + 1)), (by first | rfl | (simp; done) | (simp [*]; done)), (by first | rfl | (simp; done) | (simp [*]; done)), H', ⟨by have := HK1.out; omega⟩, by repeat (first | exact Drawn0.refl _ | apply Drawn0.step)⟩
          · rw [if_neg c5] at H
            exact absurd H (by simp)
        · rw [if_neg c4] at H
          exact absurd H (by simp)
      · rw [if_neg c3] at H
        have c3b0 : decide (x9_1 < (l1.length : Int)) = false := decide_eq_false c3
        clear c3
        obtain rfl := Option.some.inj H
        go_wp2
        go_ret
        exact ⟨by first | rfl | (simp; done) | (simp [*]; done), by repeat (first | exact Drawn0.refl _ | apply Drawn0.step)⟩

/-! ### crc_Sum: function 113 -/
def crc_Sum.f (k : Nat) (l0 : List Int) : Option (Int) := (crc_Begin.f).bind fun t104 => ((crc_Add.f k t104 l0).bind fun t105 => ((crc_End.f t105).bind fun t106 => (some t106)))
theorem crc_Sum.mono : ∀ a0 k, LeO (crc_Sum.f k a0) (crc_Sum.f (k + 1) a0) := by
  intro a0 k
  unfold crc_Sum.f
  repeat' first
      | (with_reducible exact crc_Add.mono _ _ _)
      | (with_reducible exact LeO.refl _)
      | (with_reducible exact LeO.none _)
      | (with_reducible refine LeO.ite ?_ ?_)
      | (with_reducible refine LeO.bind ?_ (fun _ => ?_))
      | exact crc_Add.mono _ _ _
      | exact LeO.none _
      | refine LeO.ite ?_ ?_
      | refine LeO.bind ?_ (fun _ => ?_)
set_option maxHeartbeats 8000000 in
set_option maxRecDepth 100000 in
theorem crc_Sum.calls (k : Nat) (A0 : Option Addr) (c0 : Nat) (l0 : List Int) (r : Int) (w : World) (hr0 : Kd.C (Kd.int .u8) w A0 l0.length l0) (hc0 : l0.length ≤ c0) (hGCrcTab : CrcTab w) (h : crc_Sum.f k l0 = some r) :
    Calls Tryd.prog 113 #[.slice A0 l0.length c0] w fun e w' => e = .returned (.int .u32 r) ∧ Drawn0 w w' := by
  have HGCrcTab := Aside0.mk hGCrcTab
  clear hGCrcTab
  have HR0 := Aside0.mk hr0
  have HC0 := Aside0.mk hc0
  clear hr0 hc0
  have H : ((crc_Begin.f).bind fun t104 => ((crc_Add.f k t104 l0).bind fun t105 => ((crc_End.f t105).bind fun t106 => (some t106)))) = some r := h
  clear h
  replace H := Option.bind_eq_some_iff.mp H
  obtain ⟨t104, A20, H⟩ := H
  replace H : ((crc_Add.f k t104 l0).bind fun t105 => ((crc_End.f t105).bind fun t106 => (some t106))) = some r := H
  have A2 := Aside0.mk A20
  clear A20
  replace H := Option.bind_eq_some_iff.mp H
  obtain ⟨t105, A30, H⟩ := H
  replace H : ((crc_End.f t105).bind fun t106 => (some t106)) = some r := H
  have A3 := Aside0.mk A30
  clear A30
  replace H := Option.bind_eq_some_iff.mp H
  obtain ⟨t106, A40, H⟩ := H
  replace H : (some t106) = some r := H
  have A4 := Aside0.mk A40
  clear A40
  obtain rfl := Option.some.inj H
  go_enter Tryd.func113, Tryd.ntmps113
  go_wp2_with (first | ((with_reducible refine gate_callee (f := 137) rfl ?_); refine goesL_ (some 3) rfl rfl Tryd.func137 (by kernel_rfl) rfl #[] rfl (by (try simp only [List.map_toArray, List.map_cons, List.map_nil]); first | done | rfl | (simp only [List.length_drop, List.length_take]; rfl)) ?_; (with_reducible refine (crc_Begin.calls  t104 _ A2.out).mono ?_); rintro e w' ⟨rfl, ⟨nd, rfl⟩⟩; refine ⟨_, rfl, ?_⟩) | ((with_reducible refine gate_callee (f := 136) rfl ?_); refine goesL_ (some 5) rfl rfl Tryd.func136 (by kernel_rfl) rfl #[.int .u32 t104, .slice A0 l0.length c0] rfl (by (try simp only [List.map_toArray, List.map_cons, List.map_nil]); first | done | rfl | (simp only [List.length_drop, List.length_take]; rfl)) ?_; (with_reducible refine (crc_Add.calls k t104 _ _ l0 t105 _ ?side1 ?side2 ?side3 A3.out).mono ?_); (case side1 => repeat (first | exact HR0.out | (with_reducible refine Kd.C_alloc ?_ _) | (with_reducible refine Kd.C_drewN ?_ _) | (with_reducible refine Kd.C_drew ?_))); (case side2 => exact HC0.out); (case side3 => first | exact HGCrcTab.out | exact CrcTab.drawn HGCrcTab.out (by repeat (first | exact Drawn0.refl _ | apply Drawn0.step))); rintro e w' ⟨rfl, ⟨nd, rfl⟩⟩; refine ⟨_, rfl, ?_⟩) | ((with_reducible refine gate_callee (f := 135) rfl ?_); refine goesL_ (some 6) rfl rfl Tryd.func135 (by kernel_rfl) rfl #[.int .u32 t105] rfl (by (try simp only [List.map_toArray, List.map_cons, List.map_nil]); first | done | rfl | (simp only [List.length_drop, List.length_take]; rfl)) ?_; (with_reducible refine (crc_End.calls t105 t106 _ A4.out).mono ?_); rintro e w' ⟨rfl, ⟨nd, rfl⟩⟩; refine ⟨_, rfl, ?_⟩))
  go_ret
  exact ⟨by first | rfl | (simp; done) | (simp [*]; done), by repeat (first | exact Drawn0.refl _ | apply Drawn0.step)⟩

/-! ### secateurref02_step: function 149 -/
def secateurref02_step.l0 : Nat → Int → Int → Option (Int)
  | 0, _, _ => none
  | k + 1, x0, x5 => if x5 < 8 then (if (Int.tmod x0 2) = 1 then (secateurref02_step.l0 k (Go.bits .xor .u32 ((Int.tdiv x0 2) % 4294967296) 3988292384) (wrap64 (x5 + 1))) else (secateurref02_step.l0 k ((Int.tdiv x0 2) % 4294967296) (wrap64 (x5 + 1)))) else (some x0)
def secateurref02_step.f (k : Nat) (a0 : Int) (a1 : Int) : Option (Int) := secateurref02_step.l0 k (Go.bits .xor .u32 a0 ((a1) % 4294967296)) 0
theorem secateurref02_step.mono_l : ∀ k, (∀ y0 y1, LeO (secateurref02_step.l0 k y0 y1) (secateurref02_step.l0 (k + 1) y0 y1))
  | 0 => fun _ _ r h => by simp [secateurref02_step.l0] at h
  | k + 1 => by
    have ih0 := secateurref02_step.mono_l k
    · intro y0 y1
      unfold secateurref02_step.l0
      repeat' first
      | (with_reducible exact ih0 _ _)
      | (with_reducible exact LeO.refl _)
      | (with_reducible exact LeO.none _)
      | (with_reducible refine LeO.ite ?_ ?_)
      | (with_reducible refine LeO.bind ?_ (fun _ => ?_))
      | exact ih0 _ _
      | exact LeO.none _
      | refine LeO.ite ?_ ?_
      | refine LeO.bind ?_ (fun _ => ?_)
theorem secateurref02_step.mono : ∀ a0 a1 k, LeO (secateurref02_step.f k a0 a1) (secateurref02_step.f (k + 1) a0 a1) := by
  intro a0 a1 k
  have ih0 := secateurref02_step.mono_l k
  unfold secateurref02_step.f
  repeat' first
      | (with_reducible exact ih0 _ _)
      | (with_reducible exact LeO.refl _)
      | (with_reducible exact LeO.none _)
      | (with_reducible refine LeO.ite ?_ ?_)
      | (with_reducible refine LeO.bind ?_ (fun _ => ?_))
      | exact ih0 _ _
      | exact LeO.none _
      | refine LeO.ite ?_ ?_
      | refine LeO.bind ?_ (fun _ => ?_)
set_option maxHeartbeats 8000000 in
set_option maxRecDepth 100000 in
theorem secateurref02_step.calls (k : Nat) (a0 : Int) (a1 : Int) (r : Int) (w : World) (h : secateurref02_step.f k a0 a1 = some r) :
    Calls Tryd.prog 149 #[.int .u32 a0, .int .u8 a1] w fun e w' => e = .returned (.int .u32 r) ∧ Drawn0 w w' := by
  have H : (secateurref02_step.l0 k (Go.bits .xor .u32 a0 ((a1) % 4294967296)) 0) = some r := h
  clear h
  have H' := Aside0.mk H
  clear H
  go_enter Tryd.func149, Tryd.ntmps149
  go_wp2
  go_loopg [0, 5] k (fun kq v0 v5 w' => ∃ (x0_1 : Int) (x5_1 : Int), v0 = .int .u32 x0_1 ∧ v5 = .int .i64 x5_1 ∧ Aside0 (secateurref02_step.l0 kq x0_1 x5_1 = some r) ∧ Aside0 (kq ≤ k) ∧ Drawn0 w w')
  case atStart => exact ⟨(Go.bits .xor .u32 a0 ((a1) % 4294967296)), (0), (by first | rfl | (simp; done) | (simp [*]; done)), (by first | rfl | (simp; done) | (simp [*]; done)), H', ⟨Nat.le_refl _⟩, by repeat (first | exact Drawn0.refl _ | apply Drawn0.step)⟩
  case round =>
    clear H'
    try clear c1
    try clear p2
    obtain ⟨x0_1, x5_1, rfl, rfl, HA, HK1, ⟨m1, rfl⟩⟩ := hrel
    cases gk with
    | zero => exact absurd HA.out (by simp [secateurref02_step.l0])
    | succ k1 =>
      have H := HA.out
      clear HA
      simp only [secateurref02_step.l0] at H
      by_cases c3 : x5_1 < 8
      · rw [if_pos c3] at H
        have c3b0 : decide (x5_1 < 8) = true := decide_eq_true c3
        clear c3
        by_cases c4 : (Int.tmod x0_1 2) = 1
        · rw [if_pos c4] at H
          have c4b0 : ((Int.tmod x0_1 2) == 1) = true := beq_iff_eq.mpr c4
          have c4b1 : ((Int.tmod x0_1 2) != 1) = false := bne_eq_false_iff_eq.mpr c4
          clear c4
          have H' := Aside0.mk H
          clear H
          go_wp2
          go_roundg k1
          case measure => have := HK1.out; omega
          case rel => exact ⟨(Go.bits .xor .u32 ((Int.tdiv x0_1 2) % 4294967296) 3988292384), (wrap64 (x5_1 + 1)), (by first | rfl | (simp; done) | (simp [*]; done)), (by first | rfl | (simp; done) | (simp [*]; done)), H', ⟨by have := HK1.out; omega⟩, by repeat (first | exact Drawn0.refl _ | apply Drawn0.step)⟩
        · rw [if_neg c4] at H
          have c4b0 : ((Int.tmod x0_1 2) == 1) = false := beq_eq_false_iff_ne.mpr c4
          have c4b1 : ((Int.tmod x0_1 2) != 1) = true := bne_iff_ne.mpr c4
          have H' := Aside0.mk H
          clear H
          go_wp2
          go_roundg k1
          case measure => have := HK1.out; omega
          case rel => exact ⟨((Int.tdiv x0_1 2) % 4294967296), (wrap64 (x5_1 + 1)), (by first | rfl | (simp; done) | (simp [*]; done)), (by first | rfl | (simp; done) | (simp [*]; done)), H', ⟨by have := HK1.out; omega⟩, by repeat (first | exact Drawn0.refl _ | apply Drawn0.step)⟩
      · rw [if_neg c3] at H
        have c3b0 : decide (x5_1 < 8) = false := decide_eq_false c3
        clear c3
        obtain rfl := Option.some.inj H
        go_wp2
        go_ret
        exact ⟨by first | rfl | (simp; done) | (simp [*]; done), by repeat (first | exact Drawn0.refl _ | apply Drawn0.step)⟩

/-! ### secateurref02_Add: function 138 -/
def secateurref02_Add.l0 : Nat → Int → List Int → Int → Option (Int)
  | 0, _, _, _ => none
  | k + 1, x0, x1, x5 => if x5 < (x1.length : Int) then (if 0 ≤ x5 then ((secateurref02_step.f k x0 (rd x1 x5)).bind fun t108 => (secateurref02_Add.l0 k t108 x1 (wrap64 (x5 + 1)))) else (none)) else (some x0)
def secateurref02_Add.f (k : Nat) (a0 : Int) (l1 : List Int) : Option (Int) := secateurref02_Add.l0 k a0 l1 0
theorem secateurref02_Add.mono_l : ∀ k, (∀ y0 y1 y2, LeO (secateurref02_Add.l0 k y0 y1 y2) (secateurref02_Add.l0 (k + 1) y0 y1 y2))
  | 0 => fun _ _ _ r h => by simp [secateurref02_Add.l0] at h
  | k + 1 => by
    have ih0 := secateurref02_Add.mono_l k
    · intro y0 y1 y2
      unfold secateurref02_Add.l0
      repeat' first
      | (with_reducible exact ih0 _ _ _)
      | (with_reducible exact secateurref02_step.mono _ _ _)
      | (with_reducible exact LeO.refl _)
      | (with_reducible exact LeO.none _)
      | (with_reducible refine LeO.ite ?_ ?_)
      | (with_reducible refine LeO.bind ?_ (fun _ => ?_))
      | exact ih0 _ _ _
      | exact secateurref02_step.mono _ _ _
      | exact LeO.none _
      | refine LeO.ite ?_ ?_
      | refine LeO.bind ?_ (fun _ => ?_)
theorem secateurref02_Add.mono : ∀ a0 a1 k, LeO (secateurref02_Add.f k a0 a1) (secateurref02_Add.f (k + 1) a0 a1) := by
  intro a0 a1 k
  have ih0 := secateurref02_Add.mono_l k
  unfold secateurref02_Add.f
  repeat' first
      | (with_reducible exact ih0 _ _ _)
      | (with_reducible exact secateurref02_step.mono _ _ _)
      | (with_reducible exact LeO.refl _)
      | (with_reducible exact LeO.none _)
      | (with_reducible refine LeO.ite ?_ ?_)
      | (with_reducible refine LeO.bind ?_ (fun _ => ?_))
      | exact ih0 _ _ _
      | exact secateurref02_step.mono _ _ _
      | exact LeO.none _
      | refine LeO.ite ?_ ?_
      | refine LeO.bind ?_ (fun _ => ?_)
set_option maxHeartbeats 8000000 in
set_option maxRecDepth 100000 in
theorem secateurref02_Add.calls (k : Nat) (a0 : Int) (A1 : Option Addr) (c1 : Nat) (l1 : List Int) (r : Int) (w : World) (hr1 : Kd.C (Kd.int .u8) w A1 l1.length l1) (hc1 : l1.length ≤ c1) (h : secateurref02_Add.f k a0 l1 = some r) :
    Calls Tryd.prog 138 #[.int .u32 a0, .slice A1 l1.length c1] w fun e w' => e = .returned (.int .u32 r) ∧ Drawn0 w w' := by
  have HR1 := Aside0.mk hr1
  have HC1 := Aside0.mk hc1
  clear hr1 hc1
  have H : (secateurref02_Add.l0 k a0 l1 0) = some r := h
  clear h
  have H' := Aside0.mk H
  clear H
  go_enter Tryd.func138, Tryd.ntmps138
  go_wp2
  go_loopg [0, 5] k (fun kq v0 v5 w' => ∃ (x0_1 : Int) (x5_1 : Int), v0 = .int .u32 x0_1 ∧ v5 = .int .i64 x5_1 ∧ Aside0 (secateurref02_Add.l0 kq x0_1 l1 x5_1 = some r) ∧ Aside0 (kq ≤ k) ∧ Drawn0 w w')
  case atStart => exact ⟨(a0), (0), (by first | rfl | (simp; done) | (simp [*]; done)), (by first | rfl | (simp; done) | (simp [*]; done)), H', ⟨Nat.le_refl _⟩, by repeat (first | exact Drawn0.refl _ | apply Drawn0.step)⟩
  case round =>
    clear H'
    try clear c1
    try clear p2
    obtain ⟨x0_1, x5_1, rfl, rfl, HA, HK1, ⟨m1, rfl⟩⟩ := hrel
    cases gk with
    | zero => exact absurd HA.out (by simp [secateurref02_Add.l0])
    | succ k1 =>
      have H := HA.out
      clear HA
      simp only [secateurref02_Add.l0] at H
      by_cases c3 : x5_1 < (l1.length : Int)
      · rw [if_pos c3] at H
        have c3b0 : decide (x5_1 < (l1.length : Int)) = true := decide_eq_true c3
        clear c3
        by_cases c4 : 0 ≤ x5_1
        · rw [if_pos c4] at H
          have c4b0 : decide (0 ≤ x5_1) = true := decide_eq_true c4
          clear c4
          replace H := Option.bind_eq_some_iff.mp H
          obtain ⟨t108, A50, H⟩ := H
          replace H : (secateurref02_Add.l0 k1 t108 l1 (wrap64 (x5_1 + 1))) = some r := H
          have A5 := Aside0.mk A50
          clear A50
          have H' := Aside0.mk H
          clear H
          have p107 : 0 ≤ (x5_1 : Int) := of_decide_eq_true (by first | (with_reducible assumption) | assumption)
          have q107 : x5_1 < (l1.length : Int) := of_decide_eq_true (by first | (with_reducible assumption) | assumption)
          obtain ⟨ad107, e107, hx107_0⟩ := Kd.at_int HR1.out x5_1 p107 q107
          cases e107
          replace p107 := eq_true p107
          replace q107 := eq_true q107
          go_wp2_with (first | ((with_reducible refine gate_callee (f := 149) rfl ?_); refine goesL_ (some 17) rfl rfl Tryd.func149 (by kernel_rfl) rfl #[.int .u32 x0_1, .int .u8 (rd l1 x5_1)] rfl (by (try simp only [List.map_toArray, List.map_cons, List.map_nil]); first | done | rfl | (simp only [List.length_drop, List.length_take]; rfl)) ?_; (with_reducible refine (secateurref02_step.calls k1 x0_1 (rd l1 x5_1) t108 _ A5.out).mono ?_); rintro e w' ⟨rfl, ⟨nd, rfl⟩⟩; refine ⟨_, rfl, ?_⟩))
          go_roundg k1
          case measure => have := HK1.out; omega
          case rel => exact ⟨(t108), (wrap64 (x5_1 + 1)), (by first | rfl | (simp; done) | (simp [*]; done)), (by first | rfl | (simp; done) | (simp [*]; done)), H', ⟨by have := HK1.out; omega⟩, by repeat (first | exact Drawn0.refl _ | apply Drawn0.step)⟩
        · rw [if_neg c4] at H
          exact absurd H (by simp)
      · rw [if_neg c3] at H
        have c3b0 : decide (x5_1 < (l1.length : Int)) = false := decide_eq_false c3
        clear c3
        obtain rfl := Option.some.inj H
        go_wp2
        go_ret
        exact ⟨by first | rfl | (simp; done) | (simp [*]; done), by repeat (first | exact Drawn0.refl _ | apply Drawn0.step)⟩

end Go.Proofs.YtmlbfepibfobaaaDoor.Q2
end

section
-- Written by this session's program layer.py (the kit's print, turned), not by hand.
namespace Go.Proofs.YtmlbfepibfobaaaDoor.Q2
open Go.RowKit Go.Proofs.YtmlbfepibfobaaaDoorW.PrintWords Go.Proofs.YtmlbfepibfobaaaDoorW.PrintLast Go.Proofs.YtmlbfepibfobaaaDoorW.PrintMore Go.Proofs.YtmlbfepibfobaaaDoor.Hand
attribute [local go_sem] max2_int min2_int max_two min_two max_three min_three max_four min_four   -- for this text's walks alone
set_option linter.unusedVariables false
set_option linter.unusedSimpArgs false

end Go.Proofs.YtmlbfepibfobaaaDoor.Q2
end

section
namespace Go.Proofs.YtmlbfepibfobaaaDoor.Hand
open Go.RowKit Go.Proofs.YtmlbfepibfobaaaDoorW.PrintWords Go.Proofs.YtmlbfepibfobaaaDoorW.PrintLast Go.Proofs.YtmlbfepibfobaaaDoorW.PrintMore
set_option linter.unusedVariables false
set_option linter.unusedSimpArgs false

def u32B (x : Int) : Bool := decide (0 ≤ x) && decide (x < 4294967296)
theorem u32B_iff {x : Int} : u32B x = true ↔ 0 ≤ x ∧ x < 4294967296 := by simp [u32B]
theorem u32B_of (s : B32) : u32B (s.toNat : Int) = true := u32B_iff.2 (b32_range s)
def crc_Begin.f : Option Int := some 4294967295
def crc_End.f (a0 : Int) : Option Int := if u32B a0 = true then some ((~~~ BitVec.ofInt 32 a0).toNat : Int) else none
def crc_Add.f (a0 : Int) (l1 : List Int) : Option Int := if u32B a0 = true ∧ l1.all byteB = true then some ((crcAdd (BitVec.ofInt 32 a0) l1).toNat : Int) else none
def crc_Sum.f (l0 : List Int) : Option Int := if l0.all byteB = true then some (crcSum l0) else none
def secateurref02_Add.f (a0 : Int) (l1 : List Int) : Option Int := crc_Add.f a0 l1
def secateurref02_Sum.f (l0 : List Int) : Option Int := crc_Sum.f l0

theorem half_some (s : B32) : crc_half.f (s.toNat : Int) = some ((bit4 s).toNat : Int) := by
  unfold crc_half.f
  rw [if_pos (b32_range s), b32_of]
theorem u32_xor_byte (s : B32) (x : Int) (hx : byteB x = true) : Go.bits .xor .u32 (s.toNat : Int) (x % 4294967296) = ((s ^^^ BitVec.ofInt 32 x).toNat : Int) := by
  have h := byteB_iff.1 hx
  have e : x % 4294967296 = x := by omega
  rw [e, u32_xor, b32_of]
theorem add_loop (l : List Int) (hb : l.all byteB = true) (hm : l.length ≤ 9223372036854775807) (d : Nat) : ∀ (k i : Nat) (s : B32), l.length - i = d → i ≤ l.length → d < k → Q2.crc_Add.l0 k (s.toNat : Int) l l.length i = some ((crcAdd s (l.drop i)).toNat : Int) := by
  induction d with
  | zero =>
    intro k i s hd hi hk
    obtain ⟨k, rfl⟩ : ∃ m, k = m + 1 := ⟨k - 1, by omega⟩
    rw [Q2.crc_Add.l0, if_neg (by omega), List.drop_of_length_le (by omega)]
    rfl
  | succ d ih =>
    intro k i s hd hi hk
    obtain ⟨k, rfl⟩ : ∃ m, k = m + 1 := ⟨k - 1, by omega⟩
    rw [Q2.crc_Add.l0, if_pos (by omega), if_pos (by omega), if_pos (by omega), rd_nat, u32_xor_byte s _ (all_getD hb (by omega)), half_some, Option.bind_some, half_some, Option.bind_some, w64 (by omega) (by omega)]
    have ih := ih k (i + 1) (bit4 (bit4 (s ^^^ BitVec.ofInt 32 (l.getD i 0)))) (by omega) (by omega) (by omega)
    push_cast at ih
    rw [ih, drop_cons l (i := i) (by omega)]
    rfl
theorem add_eq (a0 : Int) (l : List Int) (h0 : u32B a0 = true) (hb : l.all byteB = true) (hm : l.length ≤ 9223372036854775807) : Q2.crc_Add.f (l.length + 1) a0 l = some ((crcAdd (BitVec.ofInt 32 a0) l).toNat : Int) := by
  have h := u32B_iff.1 h0
  have := add_loop l hb hm _ (l.length + 1) 0 (BitVec.ofInt 32 a0) rfl (by omega) (by omega)
  rw [toNat_of h.1 h.2] at this
  exact this
theorem end_eq (a0 : Int) (h0 : u32B a0 = true) : Q2.crc_End.f a0 = some ((~~~ BitVec.ofInt 32 a0).toNat : Int) := by
  unfold Q2.crc_End.f
  rw [u32_xor]
  have e : BitVec.ofInt 32 4294967295 = BitVec.allOnes 32 := by decide
  rw [e, BitVec.xor_allOnes]
theorem sum_eq (l : List Int) (hb : l.all byteB = true) (hm : l.length ≤ 9223372036854775807) : Q2.crc_Sum.f (l.length + 1) l = some (crcSum l) := by
  unfold Q2.crc_Sum.f Q2.crc_Begin.f
  rw [Option.bind_some, add_eq 4294967295 l (by decide) hb hm, Option.bind_some, end_eq _ (u32B_of _), Option.bind_some, b32_of]
  have e : BitVec.ofInt 32 4294967295 = BitVec.allOnes 32 := by decide
  rw [e]
  rfl
theorem lsb_odd (s : B32) : s.getLsbD 0 = decide (s.toNat % 2 = 1) := by
  show s.toNat.testBit 0 = _
  exact Nat.testBit_zero _
theorem bit1_val (s : B32) : (if Int.tmod (s.toNat : Int) 2 = 1 then Go.bits .xor .u32 (Int.tdiv (s.toNat : Int) 2 % 4294967296) 3988292384 else Int.tdiv (s.toNat : Int) 2 % 4294967296) = ((bit1 s).toNat : Int) := by
  have hs := b32_range s
  have e1 : Int.tmod (s.toNat : Int) 2 = (s.toNat : Int) % 2 := Int.tmod_eq_emod_of_nonneg hs.1
  have e2 : Int.tdiv (s.toNat : Int) 2 = (s.toNat : Int) / 2 := Int.tdiv_eq_ediv_of_nonneg hs.1
  have e3 : ((s.toNat : Int) / (2 : Int)) % (4294967296 : Int) = ((s >>> 1).toNat : Int) := by
    rw [BitVec.toNat_ushiftRight, Nat.shiftRight_eq_div_pow]
    omega
  rw [e1, e2, e3]
  unfold bit1
  rw [lsb_odd]
  by_cases h : s.toNat % 2 = 1
  · rw [if_pos (by omega), decide_eq_true h, if_pos rfl, u32_xor, b32_of]
    have e : BitVec.ofInt 32 3988292384 = 0xEDB88320#32 := by decide
    rw [e]
  · rw [if_neg (by omega), decide_eq_false h]
    simp
def bitN : Nat → B32 → B32
  | 0, s => s
  | n + 1, s => bitN n (bit1 s)
theorem step_loop (d : Nat) : ∀ (k i : Nat) (s : B32), 8 - i = d → i ≤ 8 → d < k → Q2.secateurref02_step.l0 k (s.toNat : Int) i = some ((bitN d s).toNat : Int) := by
  induction d with
  | zero =>
    intro k i s hd hi hk
    obtain ⟨k, rfl⟩ : ∃ m, k = m + 1 := ⟨k - 1, by omega⟩
    rw [Q2.secateurref02_step.l0, if_neg (by omega)]
    rfl
  | succ d ih =>
    intro k i s hd hi hk
    obtain ⟨k, rfl⟩ : ∃ m, k = m + 1 := ⟨k - 1, by omega⟩
    have ih := ih k (i + 1) (bit1 s) (by omega) (by omega) (by omega)
    push_cast at ih
    have hv := bit1_val s
    rw [Q2.secateurref02_step.l0, if_pos (by omega), w64 (by omega) (by omega)]
    by_cases h : Int.tmod (s.toNat : Int) 2 = 1
    · rw [if_pos h] at hv ⊢
      rw [hv, ih]
      rfl
    · rw [if_neg h] at hv ⊢
      rw [hv, ih]
      rfl
theorem step_eq (s : B32) (x : Int) (hx : byteB x = true) (j : Nat) : Q2.secateurref02_step.f (j + 9) (s.toNat : Int) x = some ((bit8 (s ^^^ BitVec.ofInt 32 x)).toNat : Int) := by
  unfold Q2.secateurref02_step.f
  rw [u32_xor_byte s x hx]
  exact step_loop 8 (j + 9) 0 _ rfl (by omega) (by omega)
theorem addR_loop (l : List Int) (hb : l.all byteB = true) (hm : l.length ≤ 9223372036854775807) (d : Nat) : ∀ (i : Nat) (s : B32), l.length - i = d → i ≤ l.length → Q2.secateurref02_Add.l0 (d + 10) (s.toNat : Int) l i = some ((crcAdd s (l.drop i)).toNat : Int) := by
  induction d with
  | zero =>
    intro i s hd hi
    rw [Q2.secateurref02_Add.l0, if_neg (by omega), List.drop_of_length_le (by omega)]
    rfl
  | succ d ih =>
    intro i s hd hi
    rw [show d + 1 + 10 = (d + 1 + 9) + 1 from by omega, Q2.secateurref02_Add.l0, if_pos (by omega), if_pos (by omega), rd_nat, step_eq s _ (all_getD hb (by omega)), Option.bind_some, w64 (by omega) (by omega)]
    have ih := ih (i + 1) (bit8 (s ^^^ BitVec.ofInt 32 (l.getD i 0))) (by omega) (by omega)
    push_cast at ih
    rw [show d + 1 + 9 = d + 10 from by omega, ih, drop_cons l (i := i) (by omega)]
    rfl
theorem addR_eq (a0 : Int) (l : List Int) (h0 : u32B a0 = true) (hb : l.all byteB = true) (hm : l.length ≤ 9223372036854775807) : Q2.secateurref02_Add.f (l.length + 10) a0 l = some ((crcAdd (BitVec.ofInt 32 a0) l).toNat : Int) := by
  have h := u32B_iff.1 h0
  have := addR_loop l hb hm l.length 0 (BitVec.ofInt 32 a0) rfl (by omega)
  rw [toNat_of h.1 h.2] at this
  exact this

theorem crc_Begin.calls (r : Int) (w : World) (h : crc_Begin.f = some r) :
    Calls Tryd.prog 137 #[] w fun e w' => e = .returned (.int .u32 r) ∧ Drawn0 w w' := Q2.crc_Begin.calls r w h
theorem crc_End.calls (a0 : Int) (r : Int) (w : World) (h : crc_End.f a0 = some r) :
    Calls Tryd.prog 135 #[.int .u32 a0] w fun e w' => e = .returned (.int .u32 r) ∧ Drawn0 w w' := by
  unfold crc_End.f at h
  split at h
  · rename_i hg
    exact Q2.crc_End.calls a0 r w ((end_eq a0 hg).trans h)
  · cases h
theorem crc_Add.calls (a0 : Int) (A1 : Option Addr) (c1 : Nat) (l1 : List Int) (r : Int) (w : World) (hr1 : Kd.C (Kd.int .u8) w A1 l1.length l1) (hc1 : l1.length ≤ c1) (hGCrcTab : CrcTab w) (h : crc_Add.f a0 l1 = some r) :
    Calls Tryd.prog 136 #[.int .u32 a0, .slice A1 l1.length c1] w fun e w' => e = .returned (.int .u32 r) ∧ Drawn0 w w' := by
  unfold crc_Add.f at h
  split at h
  · rename_i hg
    exact Q2.crc_Add.calls _ a0 A1 c1 l1 r w hr1 hc1 hGCrcTab ((add_eq a0 l1 hg.1 hg.2 (len_of_C hr1)).trans h)
  · cases h
theorem crc_Sum.calls (A0 : Option Addr) (c0 : Nat) (l0 : List Int) (r : Int) (w : World) (hr0 : Kd.C (Kd.int .u8) w A0 l0.length l0) (hc0 : l0.length ≤ c0) (hGCrcTab : CrcTab w) (h : crc_Sum.f l0 = some r) :
    Calls Tryd.prog 113 #[.slice A0 l0.length c0] w fun e w' => e = .returned (.int .u32 r) ∧ Drawn0 w w' := by
  unfold crc_Sum.f at h
  split at h
  · rename_i hg
    exact Q2.crc_Sum.calls _ A0 c0 l0 r w hr0 hc0 hGCrcTab ((sum_eq l0 hg (len_of_C hr0)).trans h)
  · cases h
theorem secateurref02_Add.calls (a0 : Int) (A1 : Option Addr) (c1 : Nat) (l1 : List Int) (r : Int) (w : World) (hr1 : Kd.C (Kd.int .u8) w A1 l1.length l1) (hc1 : l1.length ≤ c1) (h : secateurref02_Add.f a0 l1 = some r) :
    Calls Tryd.prog 138 #[.int .u32 a0, .slice A1 l1.length c1] w fun e w' => e = .returned (.int .u32 r) ∧ Drawn0 w w' := by
  unfold secateurref02_Add.f crc_Add.f at h
  split at h
  · rename_i hg
    exact Q2.secateurref02_Add.calls _ a0 A1 c1 l1 r w hr1 hc1 ((addR_eq a0 l1 hg.1 hg.2 (len_of_C hr1)).trans h)
  · cases h
set_option maxHeartbeats 8000000 in
set_option maxRecDepth 100000 in
theorem secateurref02_Sum.calls (A0 : Option Addr) (c0 : Nat) (l0 : List Int) (r : Int) (w : World) (hr0 : Kd.C (Kd.int .u8) w A0 l0.length l0) (hc0 : l0.length ≤ c0) (h : secateurref02_Sum.f l0 = some r) :
    Calls Tryd.prog 114 #[.slice A0 l0.length c0] w fun e w' => e = .returned (.int .u32 r) ∧ Drawn0 w w' := by
  unfold secateurref02_Sum.f crc_Sum.f at h
  split at h
  · rename_i hg
    have h := Option.some.inj h
    have hA : secateurref02_Add.f 4294967295 l0 = some ((crcAdd (BitVec.allOnes 32) l0).toNat : Int) := by
      unfold secateurref02_Add.f crc_Add.f
      rw [if_pos ⟨by decide, hg⟩]
      rfl
    have HC := Aside0.mk (secateurref02_Add.calls 4294967295 A0 c0 l0 _ w hr0 hc0 hA)
    have HH := Lib.hid h
    clear hr0 hA h
    obtain ⟨s, hs⟩ : ∃ s, s = crcAdd (BitVec.allOnes 32) l0 := ⟨_, rfl⟩
    unfold crcSum at HH
    rw [← hs] at HC HH
    clear hs
    go_enter Tryd.func114, Tryd.ntmps114
    go_wp2_with fail
    refine HC.out.mono ?_
    rintro e w' ⟨rfl, hd⟩
    have HD := Aside0.mk hd
    clear hd
    have hsg : IntKind.u32.signed = false := rfl
    go_wp2_with fail
    go_ret
    refine ⟨?_, HD.out⟩
    have e : BitVec.ofInt 32 IntKind.u32.max = BitVec.allOnes 32 := by decide
    have hx : Go.bits .xor .u32 IntKind.u32.max (s.toNat : Int) = r := by
      rw [u32_xor, b32_of, e, BitVec.allOnes_xor, ← HH.out]
    rw [hx]
    rfl
  · cases h
end Go.Proofs.YtmlbfepibfobaaaDoor.Hand
end

section
namespace Go.Proofs.YtmlbfepibfobaaaDoor.Hand
open Go.RowKit Go.Proofs.YtmlbfepibfobaaaDoorW.PrintWords Go.Proofs.YtmlbfepibfobaaaDoorW.PrintLast Go.Proofs.YtmlbfepibfobaaaDoorW.PrintMore
set_option linter.unusedVariables false
set_option linter.unusedSimpArgs false

/-! ### slices.Clone of bytes -/
def slices_Clone_byte_byte.f (l0 : List Int) : Option (List Int) := if l0.length ≤ 140737488355000 then some l0 else none
theorem own_empty (W : World) (base e g : Nat) (h : W.heap[g]? = some (.cells #[] e (0, 0))) (hb : base ≤ g) : W.ownsRow base e 1 (.slice (some ⟨g, 0, none⟩) 0 0) 0 [] :=
  ⟨rfl, .inr ⟨g, 0, #[], rfl, hb, h, Nat.le_refl _, by decide, rfl, rfl⟩⟩
set_option maxHeartbeats 8000000 in
set_option maxRecDepth 100000 in
theorem slices_Clone_byte_byte.calls (A0 : Option Addr) (c0 : Nat) (l0 : List Int) (r : List Int) (w : World) (hr0 : Kd.C (Kd.int .u8) w A0 l0.length l0) (hc0 : l0.length ≤ c0) (h : slices_Clone_byte_byte.f l0 = some r) :
    Calls Tryd.prog 70 #[.slice A0 l0.length c0] w fun e w' => ∃ v0_ : Value, e = .returned (v0_) ∧ Kd.R (Kd.int .u8) 5 w' w.heap.size (fun _ => True) v0_ r ∧ Below w.heap.size w w' := by
  unfold slices_Clone_byte_byte.f at h
  split at h
  · rename_i hg
    obtain rfl := Option.some.inj h
    clear h
    have HR := Aside0.mk hr0
    cases A0 with
    | none =>
      have hn : l0.length = 0 := by
        rcases Nat.eq_zero_or_pos l0.length with h | h
        · exact h
        · obtain ⟨ad, h1, _⟩ := (Kd.reads_of_C (enc := Value.int .u8) (d := (0 : Int)) (h1 := fun _ => rfl) hr0).2.2 h
          cases h1
      obtain rfl := List.length_eq_zero_iff.1 hn
      have hq := fun (W : World) (n c : Nat) => Lib.run_eql_slice_nil (P := Tryd.prog) W 22 5 none n c 0 0 Tryd.underlying22
      clear hr0 hn hg
      go_enter Tryd.func70, Tryd.ntmps70
      go_wp2
      go_ret
      exact ⟨_, rfl, Kd.R_nil _ _ _ _ _, Below.refl _ _⟩
    | some ad =>
      clear hr0
      have hq := fun (W : World) (n c : Nat) => Lib.run_eql_slice_nil (P := Tryd.prog) W 22 5 (some ad) n c 0 0 Tryd.underlying22
      go_enter Tryd.func70, Tryd.ntmps70
      go_wp2_with (first | (at_builtin; refine Kd.R_append_rows (Kd.int .u8) (w0 := w) w.heap.size rfl (.tmp 5) (.tmp 6) 22 5 (.int .u8 0) 1 rfl Tryd.underlying22 leb_info rfl (by decide) (by omega) (.slice (some ⟨w.heap.size, 0, none⟩) 0 0) ([] : List Int) l0 _ _ _ (fun _ => True) (fun _ => False) rfl rfl ?aO ?aR (fun _ _ h => h) (fun _ h => h.elim) ?aF ?aB ?aS ?aL ?_; (case aR => exact Kd.C_alloc HR.out _); (case aB => exact below_alloc (Below.refl _ _) _); (case aF => exact (fun _ _ => trivial)); (case aO => exact (Kd.R_of_own (own_empty _ _ _ _ (blk_new _ _) (Nat.le_refl _)) (fun _ _ => trivial))); (case aS => exact (by simp)); (case aL => exact (by show (0 + l0.length) * 1 ≤ 140737488355328; omega)); intro v1 w1 ho hb hg hat; have HB2 := Aside0.mk hb; have HO2 := Aside0.mk ho; clear ho hb hg hat))
      go_ret
      exact ⟨_, rfl, HO2.out, HB2.out⟩
  · cases h
end Go.Proofs.YtmlbfepibfobaaaDoor.Hand
end

section
namespace Go.Proofs.YtmlbfepibfobaaaDoor.Hand
open Go.RowKit Go.Proofs.YtmlbfepibfobaaaDoorW.PrintWords Go.Proofs.YtmlbfepibfobaaaDoorW.PrintLast Go.Proofs.YtmlbfepibfobaaaDoorW.PrintMore
set_option linter.unusedVariables false
set_option linter.unusedSimpArgs false

/-! ### Laws that the words lack -/
section
variable {P : Program} {ops : Array Oper} {o : Oper} {a : Act} {Q : Exit → Act → World → Prop} {Kc : Act → World → Prop}
/-- 'make([]T, 0, n)' in a region that draws: an empty row of the call's own. -/
theorem make0_step {k : IntKind} {w0 W : World} (base e : Nat) (hw : Region.wanted o (yielded ops a.tmps) = true) (t : TypeId) (x y : Operand) (ho : o.op = .makeSlice t x y) (n : Nat) (hx : a.eval x = .int .i64 0) (hy : a.eval y = .int .i64 (n : Int))
    (ht : P.underlying t = some (.slice e)) (z : Value) (bytes : Nat) (hinfo : (P.info? e).map (fun i => (i.zero, i.size, i.bytes)) = some (some z, 1, bytes)) (hl : bytes * n ≤ 281474976710656) (hn : n ≤ maxLen) (HB : Below base w0 W) (hbase : base ≤ W.heap.size)
    (h : ∀ v1 w1, (Kd.int k).R e w1 base (fun _ => True) v1 [] → Below base w0 w1 → W.grownBy w1 none → (∃ b, v1.ownBlock = some b ∧ W.heap.size ≤ b) → Kc (a.put o.dst v1) w1) : if Region.wanted o (yielded ops a.tmps) = true then Oper.wp P o a W Kc Q else Kc (a.put o.dst undef) W := by
  obtain ⟨i0, hi, hzz⟩ := Option.map_eq_some_iff.1 hinfo
  simp only [Prod.mk.injEq] at hzz
  obtain ⟨hz0, hz1, hz2⟩ := hzz
  obtain ⟨w1, hrun, hown, hgrow⟩ := run_make_own (P := P) W base t e i0 z 1 ht hi hz0 hz1 .i64 .i64 n (by rw [hz2]; exact hl) hn hbase
  refine event_step hw ?_ (h _ _ (Kd.R_of_own hown (fun _ _ => trivial)) (HB.grown hgrow hbase (fun k e => by cases e)) hgrow ⟨W.heap.size, by simp [Value.ownBlock], Nat.le_refl _⟩)
  simp [execOp, ho, hx, hy, hrun]
end
/-- A block of numbers reads as a row of them. -/
theorem C_of_blk {W : World} {g : Nat} {k : IntKind} {t : TypeId} {cs : List Int} (h : W.heap[g]? = some (.cells ((nums k cs).toArray) t (0, 0))) (hm : cs.length ≤ 9223372036854775807) : (Kd.int k).C W (some ⟨g, 0, none⟩) cs.length cs := by
  refine Kd.C_of_reads (d := (0 : Int)) (h1 := fun _ => rfl) ⟨rfl, hm, fun _ => ⟨⟨g, 0, none⟩, rfl, fun j hj => ?_⟩⟩
  have e : (⟨g, 0, none⟩ : Addr).add j = ⟨g, j, none⟩ := by simp [Addr.add]; intro h0; exact h0.symm
  rw [e, blk_cell h]
  simp [nums, List.getElem?_eq_getElem hj, List.getD]
end Go.Proofs.YtmlbfepibfobaaaDoor.Hand
end

section
namespace Go.Proofs.YtmlbfepibfobaaaDoor.Hand
open Go.RowKit Go.Proofs.YtmlbfepibfobaaaDoorW.PrintWords Go.Proofs.YtmlbfepibfobaaaDoorW.PrintLast Go.Proofs.YtmlbfepibfobaaaDoorW.PrintMore
set_option linter.unusedVariables false
set_option linter.unusedSimpArgs false

/-- A sum's bytes, the lowest first. -/
def sumBytes (s : Int) : List Int := [s % 256, s / 256 % 256, s / 65536 % 256, s / 16777216]
set_option maxHeartbeats 8000000 in
set_option maxRecDepth 100000 in
theorem crc_bytesOf.calls (s : Int) (h0 : 0 ≤ s) (h1 : s < 4294967296) (w : World) :
    Calls Tryd.prog 112 #[.int .u32 s] w fun e w' => e = .returned (.agg #[.int .u8 (s % 256), .int .u8 (s / 256 % 256), .int .u8 (s / 65536 % 256), .int .u8 (s / 16777216)]) ∧ Below w.heap.size w w' := by
  go_enter Tryd.func112, Tryd.ntmps112
  go_wp2
  exact bodyPost_ret (v := .agg #[.int .u8 (s % 256), .int .u8 (s / 256 % 256), .int .u8 (s / 65536 % 256), .int .u8 (s / 16777216)]) (by simp [results, Tryd.results112, go_sem]) rfl ⟨rfl, below_alloc (Below.refl _ _) _⟩

def sealL (l : List Int) : List Int := l ++ sumBytes (crcSum l)
def crc_Seal.f (l0 : List Int) : Option (List Int) := if l0.all byteB = true ∧ l0.length ≤ 70368744177664 then some (sealL l0) else none
theorem crcSum_range (l : List Int) : 0 ≤ crcSum l ∧ crcSum l < 4294967296 := b32_range _
set_option maxHeartbeats 8000000 in
set_option maxRecDepth 100000 in
theorem crc_Seal.calls (A0 : Option Addr) (c0 : Nat) (l0 : List Int) (r : List Int) (w : World) (hr0 : Kd.C (Kd.int .u8) w A0 l0.length l0) (hc0 : l0.length ≤ c0) (hGCrcTab : CrcTab w) (h : crc_Seal.f l0 = some r) :
    Calls Tryd.prog 69 #[.slice A0 l0.length c0] w fun e w' => ∃ v0_ : Value, e = .returned (v0_) ∧ Kd.R (Kd.int .u8) 5 w' w.heap.size (fun _ => True) v0_ r ∧ Below w.heap.size w w' := by
  unfold crc_Seal.f at h
  split at h
  · rename_i hg
    obtain ⟨hb, hl⟩ := hg
    obtain rfl := Option.some.inj h
    clear h
    have hsr := crcSum_range l0
    obtain ⟨s, hs⟩ : ∃ s, s = crcSum l0 := ⟨_, rfl⟩
    have hsum : crc_Sum.f l0 = some s := by unfold crc_Sum.f; rw [if_pos hb, hs]
    have HC := Aside0.mk (crc_Sum.calls A0 c0 l0 s w hr0 hc0 hGCrcTab hsum)
    have HS := Lib.hid hs
    rw [← hs] at hsr
    have HR := Aside0.mk hr0
    clear hr0 hsum hs hGCrcTab hb
    obtain ⟨hs0, hs1⟩ := hsr
    obtain ⟨i0, hi0, hz0, hz1, hz2⟩ := info_parts leb_info
    go_enter Tryd.func69, Tryd.ntmps69
    go_wp2_with fail
    refine HC.out.mono ?_
    rintro e w1 ⟨rfl, hd⟩
    have HB1 := Aside0.mk hd.below
    clear hd
    go_wp2_with fail
    refine (crc_bytesOf.calls s hs0 hs1 _).mono ?_
    rintro e w2 ⟨rfl, hb2⟩
    have HB2 := Aside0.mk (below_step HB1.out hb2)
    clear hb2
    go_wp2_with fail
    refine start_ (n := 9) (S := fun w' => True) (ds := []) #[false, false, false, false, false, false, false, false, false] (by kernel_rfl) rfl rfl trivial (fun hHeld => ?_)
    refine pure_ (i := 0) (N := some 7) (v := ?_) (a' := ?_) #[true, false, false, false, false, false, false, false, false] rfl rfl (by kernel_rfl) (fun _ _ _ h => h) (Or.inl ⟨by rfl, ?_⟩) ?_ ?_
    rotate_left
    · intro w'
      go_simp
      with_reducible rfl
    rotate_left
    · simp only [Act.put, List.setIfInBounds_toArray, List.set_cons_zero, List.set_cons_succ, i64_w, i32_w]
      rfl
    refine pure_ (i := 1) (N := some 8) (v := ?_) (a' := ?_) #[true, true, false, false, false, false, false, false, false] rfl rfl (by kernel_rfl) (fun _ _ _ h => h) (Or.inl ⟨by rfl, ?_⟩) ?_ ?_
    rotate_left
    · intro w'
      go_simp
      with_reducible rfl
    rotate_left
    · simp only [Act.put, List.setIfInBounds_toArray, List.set_cons_zero, List.set_cons_succ, i64_w, i32_w]
      rfl
    refine pure_ (i := 2) (N := some 9) (v := ?_) (a' := ?_) #[true, true, true, false, false, false, false, false, false] rfl rfl (by kernel_rfl) (fun _ _ _ h => h) (Or.inl ⟨by rfl, ?_⟩) ?_ ?_
    rotate_left
    · intro w'
      go_simp
      with_reducible rfl
    rotate_left
    · simp only [Act.put, List.setIfInBounds_toArray, List.set_cons_zero, List.set_cons_succ, i64_w, i32_w]
      rfl
    refine pure_ (i := 4) (N := some 11) (v := ?_) (a' := ?_) #[true, true, true, false, true, false, false, false, false] rfl rfl (by kernel_rfl) (fun _ _ _ h => h) (Or.inl ⟨by rfl, ?_⟩) ?_ ?_
    rotate_left
    · intro w'
      go_simp
      with_reducible rfl
    rotate_left
    · simp only [Act.put, List.setIfInBounds_toArray, List.set_cons_zero, List.set_cons_succ, i64_w, i32_w]
      rfl
    refine pure_ (i := 6) (N := some 13) (v := ?_) (a' := ?_) #[true, true, true, false, true, false, true, false, false] rfl rfl (by kernel_rfl) (fun _ _ _ h => h) (Or.inl ⟨by rfl, ?_⟩) ?_ ?_
    rotate_left
    · intro w'
      go_simp
      with_reducible rfl
    rotate_left
    · simp only [Act.put, List.setIfInBounds_toArray, List.set_cons_zero, List.set_cons_succ, i64_w, i32_w]
      rfl
    refine one_ (i := 3) (N := some 10) #[true, true, true, true, true, false, true, false, false] rfl rfl (by kernel_rfl) (by decide) (fun K hK => ?_)
    refine make0_step (k := .u8) (w0 := w) w.heap.size 5 (by rfl) 22 _ _ rfl (l0.length + 4) rfl (by simp [Act.eval, Act.put]; unfold wrap64; omega) Tryd.underlying22 (.int .u8 0) 1 leb_info (by omega) (by unfold maxLen; omega) (by repeat (first | (with_reducible first | exact HB2.out | apply below_alloc | apply pw_below_drewN | apply below_drew1) | exact HB2.out)) (below_size (by repeat (first | (with_reducible first | exact HB2.out | apply below_alloc | apply pw_below_drewN | apply below_drew1) | exact HB2.out))) ?_
    intro v3 w3 ho hb hg hat
    have HO3 := Aside0.mk ho
    have HB3 := Aside0.mk hb
    have HQ3 := Aside0.mk (blk_grown (blk_drew (blk_new w2 _)) hg (by simp))
    obtain ⟨b3, hat1, hat2⟩ := hat
    have HA3 := Aside0.mk hat1
    have HL3 : w2.heap.size < b3 := by simp at hat2; omega
    clear ho hb hg hat1 hat2
    refine hK.out _ _ (trivial) (fun hHeld => ?_)
    clear hK K
    refine norm_ (a' := ?_) ?_ ?_
    rotate_left
    · show Act.put _ (some 10) _ = _
      simp only [Act.put, List.setIfInBounds_toArray, List.set_cons_zero, List.set_cons_succ, i64_w, i32_w]
      rfl
    refine one_ (i := 5) (N := some 12) #[true, true, true, true, true, true, true, false, false] rfl rfl (by kernel_rfl) (by decide) (fun K hK => ?_)
    refine Kd.R_append_rows_step (Kd.int .u8) (w0 := w) w.heap.size (by rfl) _ _ 22 5 (.int .u8 0) 1 rfl Tryd.underlying22 leb_info rfl (by decide) (by omega) v3 ([] : List Int) l0 _ _ _ (fun _ => True) (fun _ => False) rfl rfl HO3.out (Kd.C_below HR.out HB3.out) (fun _ _ h => h) (fun _ h => h.elim) (fun _ _ => trivial) HB3.out HB3.out.size (by show (0 + l0.length) * 1 ≤ _; omega) ?_
    intro v4 w4 ho hb hg hat
    have HO4 := Aside0.mk ho
    have HB4 := Aside0.mk hb
    have HQ4 := Aside0.mk (blk_grown HQ3.out hg (by rw [HA3.out]; simp; omega))
    clear ho hb hg hat
    refine hK.out _ _ (trivial) (fun hHeld => ?_)
    clear hK K
    refine norm_ (a' := ?_) ?_ ?_
    rotate_left
    · show Act.put _ (some 12) _ = _
      simp only [Act.put, List.setIfInBounds_toArray, List.set_cons_zero, List.set_cons_succ, i64_w, i32_w]
      rfl
    refine one_ (i := 7) (N := some 14) #[true, true, true, true, true, true, true, true, false] rfl rfl (by kernel_rfl) (by decide) (fun K hK => ?_)
    refine Kd.R_append_rows_step (Kd.int .u8) (w0 := w) w.heap.size (by rfl) _ _ 22 5 (.int .u8 0) 1 rfl Tryd.underlying22 leb_info rfl (by decide) (by omega) v4 ([] ++ l0) (sumBytes s) _ _ _ (fun _ => True) (fun _ => False) rfl rfl HO4.out (C_of_blk (cs := sumBytes s) HQ4.out (by simp [sumBytes])) (fun _ _ h => h) (fun _ h => h.elim) (fun _ _ => trivial) HB4.out HB4.out.size (by rw [List.nil_append]; omega) ?_
    intro v5 w5 ho hb hg hat
    have HO5 := Aside0.mk ho
    have HB5 := Aside0.mk hb
    clear ho hb hg hat
    refine hK.out _ _ (trivial) (fun hHeld => ?_)
    clear hK K
    refine norm_ (a' := ?_) ?_ ?_
    rotate_left
    · show Act.put _ (some 14) _ = _
      simp only [Act.put, List.setIfInBounds_toArray, List.set_cons_zero, List.set_cons_succ, i64_w, i32_w]
      rfl
    refine pure_ (i := 8) (N := some 2) (v := ?_) (a' := ?_) #[true, true, true, true, true, true, true, true, true] rfl rfl (by kernel_rfl) (fun _ _ _ h => h) (Or.inl ⟨by rfl, ?_⟩) ?_ ?_
    rotate_left
    · intro w'
      go_simp
      with_reducible rfl
    rotate_left
    · simp only [Act.put, List.setIfInBounds_toArray, List.set_cons_zero, List.set_cons_succ, i64_w, i32_w]
      rfl
    refine done_ (by kernel_rfl) ?_

    go_wp2
    go_ret
    refine ⟨_, rfl, ?_, HB5.out⟩
    have h5 := HO5.out
    rw [HS.out, List.nil_append] at h5
    exact h5
  · cases h
end Go.Proofs.YtmlbfepibfobaaaDoor.Hand
end

section
namespace Go.Proofs.YtmlbfepibfobaaaDoor.Hand
open Go.RowKit Go.Proofs.YtmlbfepibfobaaaDoorW.PrintWords Go.Proofs.YtmlbfepibfobaaaDoorW.PrintLast Go.Proofs.YtmlbfepibfobaaaDoorW.PrintMore
set_option linter.unusedVariables false
set_option linter.unusedSimpArgs false

theorem u8_cells : Tryd.prog.cellsOf 5 = 1 := by kernel_rfl
theorem u8_item (a a' : Int) (xs ys : Array Value) (w : World) (is : List Nat) (i : Nat) (r : Bool) (hx : xs[i]? = some (.int .u8 a)) (hy : ys[i]? = some (.int .u8 a')) (h : (Op.eqItems 9999 5 1 xs ys is).run Tryd.prog w = .ok r w) :
    (Op.eqItems 9999 5 1 xs ys (i :: is)).run Tryd.prog w = .ok ((a == a') && r) w := by
  have px : (part 5 xs (i * 1)).run Tryd.prog w = .ok (.int .u8 a) w := by
    rw [Nat.mul_one]
    exact run_part_plain w (by kernel_rfl) hx
  have py : (part 5 ys (i * 1)).run Tryd.prog w = .ok (.int .u8 a') w := by
    rw [Nat.mul_one]
    exact run_part_plain w (by kernel_rfl) hy
  rw [Op.eqItems]
  simp only [Sem.run_bind, px, py, Result.andThen_ok, run_equalIn_int w 9998 5 .u8 .u8 a a' Tryd.underlying5]
  cases (a == a')
  · simp
  · simpa using h
theorem eqArr4 (a b c d a' b' c' d' : Int) (w : World) : (binOp .neq 125 (.agg #[.int .u8 a, .int .u8 b, .int .u8 c, .int .u8 d]) (.agg #[.int .u8 a', .int .u8 b', .int .u8 c', .int .u8 d'])).run Tryd.prog w = .ok (.bool (!((a == a') && ((b == b') && ((c == c') && ((d == d') && true)))))) w := by
  obtain ⟨i0, hi0, _⟩ := info_parts leb_info
  rw [run_neq_struct, show (10000 : Nat) = 9999 + 1 from rfl, run_equalIn_array w 9999 _ _ Tryd.underlying125 hi0, u8_cells]
  have hr : List.range 4 = [0, 1, 2, 3] := rfl
  rw [hr, u8_item a a' _ _ w [1, 2, 3] 0 _ rfl rfl (u8_item b b' _ _ w [2, 3] 1 _ rfl rfl (u8_item c c' _ _ w [3] 2 _ rfl rfl (u8_item d d' _ _ w [] 3 true rfl rfl (by rfl))))]
  rfl

theorem loadArr4 {w : World} {ad : Addr} {a b c d : Value} (h0 : w.cell? (ad.add 0) = some a) (h1 : w.cell? (ad.add 1) = some b) (h2 : w.cell? (ad.add 2) = some c) (h3 : w.cell? (ad.add 3) = some d) :
    (Instr.loadAt 125 (.pointer (some ad))).run Tryd.prog w = .ok (.agg #[a, b, c, d]) w := by
  have hl : (loadCells ad 4).run Tryd.prog w = .ok #[a, b, c, d] w :=
    run_loadCells_list (P := Tryd.prog) w ad [a, b, c, d] (fun j v hv => by
      match j, hv with
      | 0, hv => exact h0.trans (by simpa using hv)
      | 1, hv => exact h1.trans (by simpa using hv)
      | 2, hv => exact h2.trans (by simpa using hv)
      | 3, hv => exact h3.trans (by simpa using hv)
      | j + 4, hv => simp at hv)
  have hagg : (isAgg 125).run Tryd.prog w = .ok true w := by
    unfold isAgg
    rw [Sem.run_bind, run_underlying Tryd.underlying125 w]
    rfl
  have hs : (sizeOf 125).run Tryd.prog w = .ok 4 w := by
    obtain ⟨i, hi, hz⟩ := Option.map_eq_some_iff.1 (show (Tryd.prog.info? 125).map (·.size) = some 4 by kernel_rfl)
    simp [sizeOf, typeInfo, Sem.run_bind, hi, hz]
  simp [Instr.loadAt, Instr.sureAddr, loadVar, Sem.run_bind, hagg, hs, hl]

theorem load4_op {w : World} {ad : Addr} {a b c d : Value} (h0 : w.cell? (ad.add 0) = some a) (h1 : w.cell? (ad.add 1) = some b) (h2 : w.cell? (ad.add 2) = some c) (h3 : w.cell? (ad.add 3) = some d) :
    (do pure (.value (← Instr.loadAt 125 (.pointer (some ad)))) : Sem Next).run Tryd.prog w = .ok (.value (.agg #[a, b, c, d])) w := by
  rw [Sem.run_bind, loadArr4 h0 h1 h2 h3]
  rfl
theorem eq4_op (a b c d a' b' c' d' : Int) (w : World) (q : Bool) (hq : (!((a == a') && ((b == b') && ((c == c') && ((d == d') && true))))) = q) :
    (do pure (.value (← binOp .neq 125 (.agg #[.int .u8 a, .int .u8 b, .int .u8 c, .int .u8 d]) (.agg #[.int .u8 a', .int .u8 b', .int .u8 c', .int .u8 d']))) : Sem Next).run Tryd.prog w = .ok (.value (.bool q)) w := by
  rw [Sem.run_bind, eqArr4, hq]
  rfl
def openL (b : List Int) : List Int × Int := if b.length < 4 then ([], 2) else if b.drop (b.length - 4) = sumBytes (crcSum (b.take (b.length - 4))) then (b.take (b.length - 4), 0) else ([], 4)
def crc_Open.f (l0 : List Int) : Option (List Int × Int) := if l0.all byteB = true ∧ l0.length ≤ 70368744177664 then some (openL l0) else none
set_option maxHeartbeats 8000000 in
set_option maxRecDepth 100000 in
theorem crc_Open.calls (A0 : Option Addr) (c0 : Nat) (l0 : List Int) (r1 : List Int) (r2 : Int) (w : World) (hr0 : Kd.C (Kd.int .u8) w A0 l0.length l0) (hc0 : l0.length ≤ c0) (hGCrcTab : CrcTab w) (h : crc_Open.f l0 = some (r1, r2)) :
    Calls Tryd.prog 76 #[.slice A0 l0.length c0] w fun e w' => ∃ v0_ : Value, e = .returned (.tuple #[v0_, .int .i64 r2]) ∧ Kd.R (Kd.int .u8) 5 w' w.heap.size (fun _ => True) v0_ r1 ∧ Below w.heap.size w w' := by
  unfold crc_Open.f at h
  split at h
  · rename_i hg
    obtain ⟨hb, hl⟩ := hg
    have h := Option.some.inj h
    unfold openL at h
    by_cases hs : l0.length < 4
    · rw [if_pos hs] at h
      simp only [Prod.mk.injEq] at h
      obtain ⟨rfl, rfl⟩ := h
      clear hr0 hGCrcTab hb hl
      go_enter Tryd.func76, Tryd.ntmps76
      go_wp2
      go_ret2
      exact ⟨_, rfl, Kd.R_nil _ _ _ _ _, Below.refl _ _⟩
    · rw [if_neg hs] at h
      obtain ⟨n, hn⟩ : ∃ n, l0.length = n + 4 := ⟨l0.length - 4, by omega⟩
      have hn4 : l0.length - 4 = n := by omega
      rw [hn4] at h
      obtain ⟨i0, hi0, hz0, hz1, hz2⟩ := info_parts leb_info
      have hcutA := cut_to (P := Tryd.prog) 22 5 .i64 Tryd.underlying22 hi0 A0 l0.length c0 (n : Int) (by omega) (by omega) hc0
      obtain ⟨A8, hcutB, hA8, hC8⟩ := print_drop_of (P := Tryd.prog) (Value.int .u8) 0 22 5 .i64 Tryd.underlying22 hi0 hz1 A0 c0 l0 n (by omega) (by omega) hc0
      rw [Int.toNat_natCast] at hcutA hcutB hA8 hC8
      have HRB := Aside0.mk (hA8 _ (Kd.reads_of_C hr0))
      have HRA := Aside0.mk (show Kd.C (Kd.int .u8) w A0 (l0.take n).length (l0.take n) from Kd.C_of_reads (d := (0 : Int)) (h1 := fun _ => rfl) (by have := (Kd.reads_of_C (d := (0 : Int)) hr0).take_ n (by omega); rw [List.length_take, show min n l0.length = n by omega]; exact this))
      have hlen : (l0.drop n).length = 4 := by rw [List.length_drop]; omega
      rw [hlen] at hcutB
      have HB := Aside0.mk hb
      have HG := Aside0.mk hGCrcTab
      have HH := Aside0.mk h
      have HN := Aside0.mk hn
      have hns : decide (l0.length < 4) = false := decide_eq_false hs
      have hw1 : wrap64 ((l0.length : Int) - 4) = (n : Int) := by rw [w64 (by omega) (by omega)]; omega
      have hn4' : (l0.length : Int) - 4 = (n : Int) := by omega
      clear hr0 hGCrcTab hb h hs hA8 hC8 hn hn4
      obtain ⟨s, hs⟩ : ∃ s, s = crcSum (l0.take n) := ⟨_, rfl⟩
      have hsr := crcSum_range (l0.take n)
      rw [← hs] at hsr
      obtain ⟨hs0, hs1⟩ := hsr
      have hsum : crc_Sum.f (l0.take n) = some s := by
        unfold crc_Sum.f
        rw [if_pos, hs]
        exact List.all_eq_true.2 (fun x hx => List.all_eq_true.1 HB.out x (List.mem_of_mem_take hx))
      have hcl : slices_Clone_byte_byte.f (l0.take n) = some (l0.take n) := by
        unfold slices_Clone_byte_byte.f
        rw [if_pos (by rw [List.length_take]; omega)]
      have hlt : (l0.take n).length = n := by rw [List.length_take]; omega
      have HSum : Aside0 (∀ W, Below w.heap.size w W → Calls Tryd.prog 113 #[.slice A0 n c0] W (fun e w' => e = .returned (.int .u32 s) ∧ Drawn0 W w')) := ⟨fun W hW => by
        have := crc_Sum.calls A0 c0 (l0.take n) s W (Kd.C_below HRA.out hW) (by omega) (HG.out.below hW) hsum
        rw [hlt] at this
        exact this⟩
      have HClone : Aside0 (∀ W, Below w.heap.size w W → Calls Tryd.prog 70 #[.slice A0 n c0] W (fun e w' => ∃ v0_ : Value, e = .returned (v0_) ∧ Kd.R (Kd.int .u8) 5 w' W.heap.size (fun _ => True) v0_ (l0.take n) ∧ Below W.heap.size W w')) := ⟨fun W hW => by
        have := slices_Clone_byte_byte.calls A0 c0 (l0.take n) (l0.take n) W (Kd.C_below HRA.out hW) (by omega) hcl
        rw [hlt] at this
        exact this⟩
      obtain ⟨ad, hA8e, hcells⟩ := HRB.out.2.2 (by rw [hlen]; omega)
      obtain ⟨x0, x1, x2, x3, hd4⟩ : ∃ x0 x1 x2 x3, l0.drop n = [x0, x1, x2, x3] := by
        match hm : l0.drop n, hlen with
        | [a, b, c, d], _ => exact ⟨a, b, c, d, rfl⟩
      rw [hlen, hd4] at hcells
      subst hA8e
      have h0 := Aside0.mk (hcells 0 (by omega))
      have h1 := Aside0.mk (hcells 1 (by omega))
      have h2 := Aside0.mk (hcells 2 (by omega))
      have h3 := Aside0.mk (hcells 3 (by omega))
      simp only [List.getD_cons_zero, List.getD_cons_succ] at h0 h1 h2 h3
      have HH4 := HH.out
      rw [hd4, ← hs] at HH4
      have HT := Aside0.mk HH4
      have hS := Lib.hid hs
      obtain ⟨q, hq0⟩ : ∃ q, (!((s % 256 == x0) && ((s / 256 % 256 == x1) && ((s / 65536 % 256 == x2) && ((s / 16777216 == x3) && true))))) = q := ⟨_, rfl⟩
      have hq := Aside0.mk hq0
      clear hq0
      have hlt' := Aside0.mk hlt
      clear HH4 hcells hd4 hs hsum hcl HRB HH hlen hlt HB
      go_enter Tryd.func76, Tryd.ntmps76
      go_wp2_with fail
      go_quiet (fail)
      go_wp2_with fail
      have HBq := Aside0.mk (pw_below_drewN (Below.refl w.heap.size w) nq)
      obtain ⟨wq, hwq⟩ : ∃ wq, wq = w.drewN nq := ⟨_, rfl⟩
      rw [← hwq] at HBq ⊢
      clear hwq
      replace h0 := Aside0.mk (pw_cell_below HBq.out h0.out)
      replace h1 := Aside0.mk (pw_cell_below HBq.out h1.out)
      replace h2 := Aside0.mk (pw_cell_below HBq.out h2.out)
      replace h3 := Aside0.mk (pw_cell_below HBq.out h3.out)
      refine start_ (n := 7) (S := fun w' => w'.cell? (ad.add 0) = some (.int .u8 x0) ∧ w'.cell? (ad.add 1) = some (.int .u8 x1) ∧ w'.cell? (ad.add 2) = some (.int .u8 x2) ∧ w'.cell? (ad.add 3) = some (.int .u8 x3)) (ds := []) #[false, false, false, false, false, false, false] (by kernel_rfl) rfl rfl ⟨h0.out, h1.out, h2.out, h3.out⟩ (fun hHeld => ?_)
      refine pure_ (i := 0) (N := some 18) (v := ?_) (a' := ?_) #[true, false, false, false, false, false, false] rfl rfl (by kernel_rfl) (fun _ _ _ h => h) (Or.inl ⟨by rfl, ?_⟩) ?_ ?_
      rotate_left
      · intro w'
        go_simp
        with_reducible rfl
      rotate_left
      · simp only [Act.put, List.setIfInBounds_toArray, List.set_cons_zero, List.set_cons_succ, i64_w, i32_w]
        rfl
      refine pure_ (i := 3) (N := some 21) (v := ?_) (a' := ?_) #[true, false, false, true, false, false, false] rfl rfl (by kernel_rfl) (fun _ _ _ h => h) (Or.inl ⟨by rfl, ?_⟩) ?_ ?_
      rotate_left
      · intro w'
        go_simp
        with_reducible rfl
      rotate_left
      · simp only [Act.put, List.setIfInBounds_toArray, List.set_cons_zero, List.set_cons_succ, i64_w, i32_w]
        rfl
      refine pure_ (i := 4) (N := some 22) (v := ?_) (a' := ?_) #[true, false, false, true, true, false, false] rfl rfl (by kernel_rfl) (fun _ _ _ h => h) (Or.inl ⟨by rfl, ?_⟩) ?_ ?_
      rotate_left
      · intro w'
        go_simp
        rw [run_arrayAt _ 125 5 4 _ 4 (c0 - n) Tryd.underlying125 (by omega)]
        exact rfl
      rotate_left
      · simp only [Act.put, List.setIfInBounds_toArray, List.set_cons_zero, List.set_cons_succ, i64_w, i32_w]
        rfl
      refine take_ (i := 5) (N := some 23) (v := ?_) (a' := ?_) #[true, false, false, true, true, true, false] rfl rfl (by kernel_rfl) (fun _ _ _ h => h) (Or.inl ⟨by rfl, ?_⟩) hHeld ?_ ?_
      rotate_left
      · rintro w' ⟨s0, s1, s2, s3⟩
        exact load4_op s0 s1 s2 s3
      rotate_left
      · simp only [Act.put, List.setIfInBounds_toArray, List.set_cons_zero, List.set_cons_succ, i64_w, i32_w]
        rfl
      refine one_ (i := 1) (N := some 19) #[true, true, false, true, true, true, false] rfl rfl (by kernel_rfl) (by decide) (fun K hK => ?_)
      refine goes_ Tryd.func113 (by kernel_rfl) rfl #[.slice A0 n c0] (by rfl) rfl rfl (by simp only [List.map_toArray, List.map_cons, List.map_nil]; rfl) ?_
      with_reducible refine (HSum.out _ (below_drew1 HBq.out)).mono ?_
      rintro e w3 ⟨rfl, hd⟩
      refine ⟨_, rfl, ?_⟩
      have HB3 := Aside0.mk (below_step (below_drew1 HBq.out) hd.below)
      refine hK.out _ _ ⟨pw_cell_below hd.below hHeld.1, pw_cell_below hd.below hHeld.2.1, pw_cell_below hd.below hHeld.2.2.1, pw_cell_below hd.below hHeld.2.2.2⟩ (fun hHeld => ?_)
      clear hK K
      refine norm_ (a' := ?_) ?_ ?_
      rotate_left
      · show Act.put _ (some 19) _ = _
        simp only [Act.put, List.setIfInBounds_toArray, List.set_cons_zero, List.set_cons_succ, i64_w, i32_w]
        rfl
      refine one_ (i := 2) (N := some 20) #[true, true, true, true, true, true, false] rfl rfl (by kernel_rfl) (by decide) (fun K hK => ?_)
      refine goes_ Tryd.func112 (by kernel_rfl) rfl #[.int .u32 s] (by rfl) rfl rfl (by simp only [List.map_toArray, List.map_cons, List.map_nil]; rfl) ?_
      with_reducible refine (crc_bytesOf.calls s hs0 hs1 _).mono ?_
      rintro e w4 ⟨rfl, hb4⟩
      refine ⟨_, rfl, ?_⟩
      have HB4 := Aside0.mk (below_step HB3.out hb4)
      refine hK.out _ _ ⟨pw_cell_below hb4 hHeld.1, pw_cell_below hb4 hHeld.2.1, pw_cell_below hb4 hHeld.2.2.1, pw_cell_below hb4 hHeld.2.2.2⟩ (fun hHeld => ?_)
      clear hK K
      refine norm_ (a' := ?_) ?_ ?_
      rotate_left
      · show Act.put _ (some 20) _ = _
        simp only [Act.put, List.setIfInBounds_toArray, List.set_cons_zero, List.set_cons_succ, i64_w, i32_w]
        rfl
      refine pure_ (i := 6) (N := some 24) (v := ?_) (a' := ?_) #[true, true, true, true, true, true, true] rfl rfl (by kernel_rfl) (fun _ _ _ h => h) (Or.inl ⟨by rfl, ?_⟩) ?_ ?_
      rotate_left
      · intro w'
        exact eq4_op _ _ _ _ _ _ _ _ w' q hq.out
      rotate_left
      · simp only [Act.put, List.setIfInBounds_toArray, List.set_cons_zero, List.set_cons_succ, i64_w, i32_w]
        rfl
      refine done_ (by kernel_rfl) ?_
      have hT := HT.out
      have hq1 := hq.out
      cases q with
      | true =>
        rw [if_neg (by simp only [sumBytes, List.cons.injEq]; rintro ⟨rfl, rfl, rfl, rfl, _⟩; simp at hq1)] at hT
        simp only [Prod.mk.injEq] at hT
        obtain ⟨rfl, rfl⟩ := hT
        clear hq1
        go_wp2
        go_ret2
        exact ⟨_, rfl, Kd.R_nil _ _ _ _ _, HB4.out⟩
      | false =>
        rw [if_pos (by simp at hq1; obtain ⟨q0, q1, q2, q3⟩ := hq1; subst q0 q1 q2 q3; rfl)] at hT
        simp only [Prod.mk.injEq] at hT
        obtain ⟨rfl, rfl⟩ := hT
        clear hq1
        go_wp2_with fail
        refine (HClone.out _ HB4.out).mono ?_
        rintro e w5 ⟨v0, rfl, hR5, hb5⟩
        go_wp2
        go_ret2
        exact ⟨_, rfl, Kd.R_lower hR5 HB4.out.size, below_step HB4.out hb5⟩
  · cases h
end Go.Proofs.YtmlbfepibfobaaaDoor.Hand
end

section
namespace Go.Proofs.YtmlbfepibfobaaaDoor.Hand
open Go.RowKit Go.Proofs.YtmlbfepibfobaaaDoorW.PrintWords Go.Proofs.YtmlbfepibfobaaaDoorW.PrintLast Go.Proofs.YtmlbfepibfobaaaDoorW.PrintMore
set_option linter.unusedVariables false
set_option linter.unusedSimpArgs false

/-- What reading gives up with. -/
abbrev FailE (e fa : Int) : List PanicEntry := [{ v := .iface 130 (.agg #[.int .i64 e, .int .i64 fa]), recovered := false }]
theorem wgrown_drewN (w : World) (n b : Nat) : w.grownBy (w.drewN n) (some b) := grown_of_below (pw_below_drewN (Below.refl _ w) n) _
theorem wgrown_setCell (w : World) (a : Addr) (u : Value) : w.grownBy (w.setCell a u) (some a.block) :=
  ⟨rfl, rfl, rfl, Nat.le_of_eq (World.size_setCell w a u).symm, fun i hi hne => Below.heap_setCell w a u i (fun e => hne (by rw [e]))⟩
/-- A reader in its block. -/
def RdW (w : World) (b : Nat) (A : Option Addr) (c : Nat) (l : List Int) (m ix : Nat) (e fa : Int) : Prop :=
  w.heap[b]? = some (.cells #[.slice A l.length c, .int .i64 (ix : Int), .int .i64 (m : Int), .int .i64 e, .int .i64 fa] 88 (0, 0)) ∧ Kd.C (Kd.int .u8) w A l.length l
/-- What is so of a reader's bytes, once for all. -/
structure RdF (b : Nat) (A : Option Addr) (c : Nat) (l : List Int) (m : Nat) : Prop where
  cap : l.length ≤ c
  byt : l.all byteB = true
  len : l.length ≤ 140737488351232
  to_ : m ≤ l.length
  far : ∀ ad, A = some ad → ad.block ≠ b
theorem add_block (a : Addr) (i : Nat) : (a.add i).block = a.block := by
  unfold Addr.add
  split <;> rfl
theorem C_grown {w w' : World} {A : Option Addr} {l : List Int} {b : Nat} (h : Kd.C (Kd.int .u8) w A l.length l) (hg : w.grownBy w' (some b)) (hne : ∀ ad, A = some ad → ad.block ≠ b) : Kd.C (Kd.int .u8) w' A l.length l :=
  Kd.C_foot_ne (fun h => h) h (fun ad h _ => hne ad h) w' ⟨hg.size, fun i hi h1 _ => hg.block i hi (fun e => h1 (Option.some.inj e))⟩
theorem rd_cells {w : World} {b : Nat} {A : Option Addr} {c : Nat} {l : List Int} {m ix : Nat} {e fa : Int} (h : RdW w b A c l m ix e fa) :
    w.cell? ⟨b, 0, none⟩ = some (.slice A l.length c) ∧ w.cell? ⟨b, 1, none⟩ = some (.int .i64 (ix : Int)) ∧ w.cell? ⟨b, 2, none⟩ = some (.int .i64 (m : Int)) ∧ w.cell? ⟨b, 3, none⟩ = some (.int .i64 e) ∧ w.cell? ⟨b, 4, none⟩ = some (.int .i64 fa) ∧ w.frozen? ⟨b, 1, none⟩ = false ∧ w.frozen? ⟨b, 3, none⟩ = false ∧ w.frozen? ⟨b, 4, none⟩ = false := by
  have h0 := blk_cell h.1 0
  have h1 := blk_cell h.1 1
  have h2 := blk_cell h.1 2
  have h3 := blk_cell h.1 3
  have h4 := blk_cell h.1 4
  simp only [List.getElem?_toArray, List.getElem?_cons_zero, List.getElem?_cons_succ] at h0 h1 h2 h3 h4
  exact ⟨h0, h1, h2, h3, h4, blk_frozen h.1 1, blk_frozen h.1 3, blk_frozen h.1 4⟩
theorem rd_lt {w : World} {b : Nat} {A : Option Addr} {c : Nat} {l : List Int} {m ix : Nat} {e fa : Int} (h : RdW w b A c l m ix e fa) : b < w.heap.size := (Array.getElem?_eq_some_iff.1 h.1).1
theorem rd_kept {w w' : World} {b : Nat} {A : Option Addr} {c : Nat} {l : List Int} {m ix : Nat} {e fa : Int} {r : Nat} (h : RdW w b A c l m ix e fa) (hg : w.grownBy w' (some r)) (hne : b ≠ r) (hA : ∀ ad, A = some ad → ad.block ≠ r) : RdW w' b A c l m ix e fa :=
  ⟨(hg.block b (rd_lt h) (fun e => hne (Option.some.inj e))).trans h.1, C_grown h.2 hg hA⟩
theorem rd_below {w w' : World} {b : Nat} {A : Option Addr} {c : Nat} {l : List Int} {m ix : Nat} {e fa : Int} (h : RdW w b A c l m ix e fa) (hB : Below w.heap.size w w') : RdW w' b A c l m ix e fa :=
  ⟨(hB.block b (rd_lt h)).trans h.1, Kd.C_below h.2 hB⟩
theorem rd_set1 {w : World} {b : Nat} {A : Option Addr} {c : Nat} {l : List Int} {m ix : Nat} {e fa : Int} (h : RdW w b A c l m ix e fa) (hA : ∀ ad, A = some ad → ad.block ≠ b) (n : Nat) : RdW (w.setCell ⟨b, 1, none⟩ (.int .i64 (n : Int))) b A c l m n e fa := by
  have h2 := blk_set h.1 1 (.int .i64 (n : Int))
  simp only [List.setIfInBounds_toArray, List.set_cons_zero, List.set_cons_succ] at h2
  exact ⟨h2, C_grown h.2 (wgrown_setCell w ⟨b, 1, none⟩ _) hA⟩
theorem rd_set3 {w : World} {b : Nat} {A : Option Addr} {c : Nat} {l : List Int} {m ix : Nat} {e fa : Int} (h : RdW w b A c l m ix e fa) (hA : ∀ ad, A = some ad → ad.block ≠ b) (n : Int) : RdW (w.setCell ⟨b, 3, none⟩ (.int .i64 n)) b A c l m ix n fa := by
  have h2 := blk_set h.1 3 (.int .i64 n)
  simp only [List.setIfInBounds_toArray, List.set_cons_zero, List.set_cons_succ] at h2
  exact ⟨h2, C_grown h.2 (wgrown_setCell w ⟨b, 3, none⟩ _) hA⟩
theorem rd_set4 {w : World} {b : Nat} {A : Option Addr} {c : Nat} {l : List Int} {m ix : Nat} {e fa : Int} (h : RdW w b A c l m ix e fa) (hA : ∀ ad, A = some ad → ad.block ≠ b) (n : Int) : RdW (w.setCell ⟨b, 4, none⟩ (.int .i64 n)) b A c l m ix e n := by
  have h2 := blk_set h.1 4 (.int .i64 n)
  simp only [List.setIfInBounds_toArray, List.set_cons_zero, List.set_cons_succ] at h2
  exact ⟨h2, C_grown h.2 (wgrown_setCell w ⟨b, 4, none⟩ _) hA⟩
theorem rd_byte {w : World} {b : Nat} {A : Option Addr} {c : Nat} {l : List Int} {m ix : Nat} {e fa : Int} (h : RdW w b A c l m ix e fa) (hA : ∀ ad, A = some ad → ad.block ≠ b) (i : Nat) (hi : i < l.length) : ∃ ad, A = some ad ∧ ad.block ≠ b ∧ w.cell? (ad.add i) = some (.int .u8 (l.getD i 0)) := by
  obtain ⟨ad, had, hcell⟩ := ReadsOf.at_ (Kd.reads_of_C (d := (0 : Int)) h.2) (i : Int) (by omega) (by omega)
  rw [Int.toNat_natCast] at hcell
  exact ⟨ad, had, hA ad had, hcell⟩
theorem wire_unless (e fa : Int) (w : World) : Calls Tryd.prog 73 #[.bool true, .int .i64 e, .int .i64 fa] w fun x w' => x = .returned (.tuple #[]) ∧ w' = w := by
  go_enter Tryd.func73, Tryd.ntmps73
  go_wp2
  go_end0
  exact ⟨rfl, rfl⟩
theorem wire_unless_not (e fa : Int) (w : World) : Calls Tryd.prog 73 #[.bool false, .int .i64 e, .int .i64 fa] w fun x w' => x = .panicked (FailE e fa) ∧ w' = w := by
  go_enter Tryd.func73, Tryd.ntmps73
  go_wp2
  exact ⟨rfl, rfl, rfl⟩
theorem wire_ready (b : Nat) (A : Option Addr) (c : Nat) (l : List Int) (m ix : Nat) (e fa : Int) (w : World) (h : RdW w b A c l m ix e fa) :
    Calls Tryd.prog 71 #[.pointer (some ⟨b, 0, none⟩)] w fun x w' => x = .returned (.bool (e == 0)) ∧ w' = w := by
  obtain ⟨h0, h1, h2, h3, h4, f1, f3, f4⟩ := rd_cells h
  go_enter Tryd.func71, Tryd.ntmps71
  go_wp2
  go_ret
  exact ⟨rfl, rfl⟩
theorem wire_ready_nil (w : World) : Calls Tryd.prog 71 #[.pointer none] w fun x w' => x = .returned (.bool false) ∧ w' = w := by
  go_enter Tryd.func71, Tryd.ntmps71
  go_wp2
  go_ret
  exact ⟨rfl, rfl⟩
/-- A call of a Go function that panics, by its contract. -/
theorem goesP_ {P : Program} {Q : Exit → Act → World → Prop} {ops : Array Oper} {oi : Oper} {N : Option Tmp} {a : Act} {w : World} {K : Act → World → Prop} {f : FuncId} {fn : Func} {ars : Array Operand} {ts : Array TypeId} (hf : P.funcs[f]? = some fn) (hname : (fn.name == "runtime.NumGoroutine") = false) (hb : fn.body.isSome = true) (args : Array Value)
    (hw : Region.wanted oi (yielded ops a.tmps) = true) (hop : oi.op = .call { callee := .value (.func f), args := ars, argTypes := ts }) (hargs : ars.map a.eval = args)
    (h : Calls P f args w fun e w' => ∃ c, e = .panicked c ∧ Q (.panic c) a w') : if Region.wanted oi (yielded ops a.tmps) = true then Oper.wp P oi a w K Q else K (a.put N undef) w := by
  rw [if_pos hw]
  have he := enters_ hf hname hb args w
  have hrun : (execOp a.eval oi).run P w = .ok (.enter f args) w := by
    unfold execOp
    simp [hop, resolve, Deferred.ofValue, invoke, Act.eval, hargs, he]
  unfold Oper.wp
  rw [hrun, Oper.upon_enter]
  refine h.mono fun e w'' hh => ?_
  obtain ⟨c, rfl, hk⟩ := hh
  exact hk
set_option hygiene false in
/-- One operation that yields, taken first. -/
macro "kp " i:num N:num l:term : tactic => `(tactic| (refine take_ (i := $i) (N := some $N) (v := ?_) (a' := ?_) $l rfl rfl (by kernel_rfl) (fun _ _ _ h => h) (Or.inl ⟨by rfl, ?_⟩) hHeld ?_ ?_; rotate_left; rintro w' ⟨s0, s1, s2, s3⟩; go_simp; (try with_reducible rfl); rotate_left; (simp only [Act.put, List.setIfInBounds_toArray, List.set_cons_zero, List.set_cons_succ, i64_w, i32_w]; rfl)))
set_option maxHeartbeats 4000000 in
theorem wire_one_some (b : Nat) (A : Option Addr) (c : Nat) (l : List Int) (m ix : Nat) (e fa : Int) (w : World) (h : RdW w b A c l m ix e fa) (hf : RdF b A c l m) (hi : ix < m) :
    Calls Tryd.prog 74 #[.pointer (some ⟨b, 0, none⟩)] w fun x w' => x = .returned (.int .u8 (l.getD ix 0)) ∧ RdW w' b A c l m (ix + 1) e fa ∧ w.grownBy w' (some b) := by
  obtain ⟨h0, h1, h2, h3, h4, f1, f3, f4⟩ := rd_cells h
  have hl := hf.len
  have ht := hf.to_
  have hd : decide ((ix : Int) < (m : Int)) = true := decide_eq_true (by omega)
  have hsum : IntKind.i64.wrap ((ix : Int) + 1) = (ix : Int) + 1 := IntWalk.i64_in _ ⟨by omega, by omega⟩
  have hsub : IntKind.i64.wrap ((ix : Int) + 1 - 1) = (ix : Int) := by rw [show (ix : Int) + 1 - 1 = ix by omega]; exact IntWalk.i64_in _ ⟨by omega, by omega⟩
  obtain ⟨ad, had, hne, hcell⟩ := rd_byte h hf.far ix (by omega)
  subst had
  have hcell2 : ∀ n v, ((w.drewN n).setCell ⟨b, 1, none⟩ v).cell? (ad.add ix) = some (.int .u8 (l.getD ix 0)) := fun n v => by
    rw [World.cell?_setCell_other _ _ _ _ (fun e => hne (by have := congrArg Addr.block e; rw [add_block] at this; exact this.symm))]
    exact hcell
  have HR := Aside0.mk (fun n => rd_set1 (rd_below h (pw_below_drewN (Below.refl _ w) n)) hf.far (ix + 1))
  clear h
  go_enter Tryd.func74, Tryd.ntmps74
  go_wp2
  go_quiet ((go_at_call 73; exact Calls.quiet_of_same (wire_unless _ _ _)))
  go_wp2
  go_quiet (fail)
  go_wp2
  exact bodyPost_ret (results_tmp rfl _ _ _) rfl ⟨rfl, rd_below (HR.out _) (pw_below_drewN (Below.refl _ _) _), ((wgrown_drewN w _ b).trans (wgrown_setCell _ ⟨b, 1, none⟩ _)).trans (wgrown_drewN _ _ b)⟩
set_option maxRecDepth 20000 in
set_option maxHeartbeats 4000000 in
theorem wire_one_none (b : Nat) (A : Option Addr) (c : Nat) (l : List Int) (m ix : Nat) (e fa : Int) (w : World) (h : RdW w b A c l m ix e fa) (hf : RdF b A c l m) (hi : m ≤ ix) :
    Calls Tryd.prog 74 #[.pointer (some ⟨b, 0, none⟩)] w fun x w' => x = .panicked (FailE 2 ix) ∧ RdW w' b A c l m ix e fa ∧ w.grownBy w' (some b) := by
  have hd : decide (ix < m) = false := decide_eq_false (by omega)
  have hB := below_drew1 (Below.refl w.heap.size w)
  have h' := rd_below h hB
  obtain ⟨h0, h1, h2, h3, h4, f1, f3, f4⟩ := rd_cells h'
  have hs : w.drew.cell? ⟨b, 1, none⟩ = some (.int .i64 (ix : Int)) ∧ w.drew.cell? ⟨b, 2, none⟩ = some (.int .i64 (m : Int)) ∧ w.grownBy w.drew (some b) ∧ RdW w.drew b A c l m ix e fa := ⟨h1, h2, grown_of_below hB _, h'⟩
  clear h0 h1 h2 h3 h4 f1 f3 f4 hB h h' hf
  go_enter Tryd.func74, Tryd.ntmps74
  go_wp2
  refine start_ (n := 14) (S := fun w' => w'.cell? ⟨b, 1, none⟩ = some (.int .i64 (ix : Int)) ∧ w'.cell? ⟨b, 2, none⟩ = some (.int .i64 (m : Int)) ∧ w.grownBy w' (some b) ∧ RdW w' b A c l m ix e fa) (ds := []) #[false, false, false, false, false, false, false, false, false, false, false, false, false, false] (by kernel_rfl) rfl rfl hs (fun hHeld => ?_)
  kp 0 3 #[true, false, false, false, false, false, false, false, false, false, false, false, false, false]
  kp 1 4 #[true, true, false, false, false, false, false, false, false, false, false, false, false, false]
  kp 2 5 #[true, true, true, false, false, false, false, false, false, false, false, false, false, false]
  kp 3 6 #[true, true, true, true, false, false, false, false, false, false, false, false, false, false]
  kp 4 7 #[true, true, true, true, true, false, false, false, false, false, false, false, false, false]
  kp 5 8 #[true, true, true, true, true, true, false, false, false, false, false, false, false, false]
  kp 6 9 #[true, true, true, true, true, true, true, false, false, false, false, false, false, false]
  kp 7 10 #[true, true, true, true, true, true, true, true, false, false, false, false, false, false]
  kp 8 11 #[true, true, true, true, true, true, true, true, true, false, false, false, false, false]
  kp 9 12 #[true, true, true, true, true, true, true, true, true, true, false, false, false, false]
  kp 10 13 #[true, true, true, true, true, true, true, true, true, true, true, false, false, false]
  kp 11 14 #[true, true, true, true, true, true, true, true, true, true, true, true, false, false]
  kp 12 15 #[true, true, true, true, true, true, true, true, true, true, true, true, true, false]
  refine one_ (i := 13) (N := some 16) #[true, true, true, true, true, true, true, true, true, true, true, true, true, true] rfl rfl (by kernel_rfl) (by decide) (fun K hK => ?_)
  refine goesP_ Tryd.func73 (by kernel_rfl) rfl #[.bool false, .int .i64 2, .int .i64 ix] (by rfl) rfl (by simp only [List.map_toArray, List.map_cons, List.map_nil]; rfl) ?_
  refine (wire_unless_not _ _ _).mono ?_
  rintro e w3 ⟨rfl, rfl⟩
  exact ⟨_, rfl, rfl, rfl, hHeld.2.2.2, hHeld.2.2.1⟩
/-- What reading a number comes to: the number, where it goes on (or what failed: where), and what failed. -/
def bigR (l : List Int) (m ix : Nat) : Int × Nat × Int := if (lebTake (l.take m) ix).2.2 = 0 then ((lebTake (l.take m) ix).1, (lebTake (l.take m) ix).2.1.toNat, 0) else (0, ix, (lebTake (l.take m) ix).2.2)
theorem take_len {l : List Int} {m : Nat} (h : m ≤ l.length) : (l.take m).length = m := by rw [List.length_take]; omega
theorem rd_take {w : World} {b : Nat} {A : Option Addr} {c : Nat} {l : List Int} {m ix : Nat} {e fa : Int} (h : RdW w b A c l m ix e fa) (n : Nat) (hn : n ≤ l.length) : Kd.C (Kd.int .u8) w A (l.take n).length (l.take n) :=
  Kd.C_of_reads (d := (0 : Int)) (h1 := fun _ => rfl) (by have := (Kd.reads_of_C (d := (0 : Int)) h.2).take_ n hn; rw [take_len hn]; exact this)
theorem all_take {l : List Int} (n : Nat) (h : l.all byteB = true) : (l.take n).all byteB = true := List.all_eq_true.2 (fun x hx => List.all_eq_true.1 h x (List.mem_of_mem_take hx))
theorem rd_Take (b : Nat) (A : Option Addr) (c : Nat) (l : List Int) (m ix : Nat) (e fa : Int) (w : World) (h : RdW w b A c l m ix e fa) (hf : RdF b A c l m) (t : Int × Int × Int) (ht : lebTake (l.take m) ix = t) :
    Calls Tryd.prog 115 #[.slice A m c, .int .i64 (ix : Int)] w fun x w' => x = .returned (.tuple #[.int .u64 t.1, .int .i64 t.2.1, .int .i64 t.2.2]) ∧ ∃ k, w' = w.drewN k := by
  have hl := hf.len
  have hc := hf.cap
  have hm := hf.to_
  have := leb_Take.calls A c (l.take m) ix t.1 t.2.1 t.2.2 w (rd_take h m hm) (by rw [take_len hm]; omega) (by rw [take_some _ (all_take m hf.byt) (by rw [take_len hm]; omega), ht])
  rw [take_len hm] at this
  exact this.mono fun x w' ⟨h1, h2⟩ => ⟨h1, h2.out⟩
set_option maxHeartbeats 4000000 in
theorem wire_big_some (b : Nat) (A : Option Addr) (c : Nat) (l : List Int) (m ix : Nat) (e fa : Int) (w : World) (h : RdW w b A c l m ix e fa) (hf : RdF b A c l m) (v : Int) (n : Nat) (ht : lebTake (l.take m) ix = (v, (n : Int), 0)) :
    Calls Tryd.prog 80 #[.pointer (some ⟨b, 0, none⟩)] w fun x w' => x = .returned (.int .u64 v) ∧ RdW w' b A c l m n e fa ∧ w.grownBy w' (some b) := by
  obtain ⟨h0, h1, h2, h3, h4, f1, f3, f4⟩ := rd_cells h
  obtain ⟨i0, hi0, hz0, hz1, hz2⟩ := info_parts leb_info
  have hm := hf.to_
  have hcutA := cut_to (P := Tryd.prog) 22 5 .i64 Tryd.underlying22 hi0 A l.length c (m : Int) (by omega) (by omega) hf.cap
  rw [Int.toNat_natCast] at hcutA
  have HT : Aside0 (∀ k, Calls Tryd.prog 115 #[.slice A m c, .int .i64 (ix : Int)] (w.drewN k) fun x w' => x = .returned (.tuple #[.int .u64 v, .int .i64 (n : Int), .int .i64 0]) ∧ ∃ j, w' = (w.drewN k).drewN j) := ⟨fun k => rd_Take b A c l m ix e fa _ (rd_below h (pw_below_drewN (Below.refl _ w) k)) hf _ ht⟩
  have HR := Aside0.mk (fun k => rd_set1 (rd_below h (pw_below_drewN (Below.refl _ w) k)) hf.far n)
  clear h hf ht
  go_enter Tryd.func80, Tryd.ntmps80
  go_wp2
  go_quiet ((go_at_call 115; exact Calls.quiet_of (HT.out _)))
  go_wp2_with (go_at_call 73; refine (wire_unless _ _ _).mono ?_; rintro e w1 ⟨rfl, rfl⟩)
  exact bodyPost_ret (results_tmp rfl _ _ _) rfl ⟨rfl, HR.out _, (wgrown_drewN w _ b).trans (wgrown_setCell _ ⟨b, 1, none⟩ _)⟩
set_option maxHeartbeats 4000000 in
theorem wire_big_none (b : Nat) (A : Option Addr) (c : Nat) (l : List Int) (m ix : Nat) (e fa : Int) (w : World) (h : RdW w b A c l m ix e fa) (hf : RdF b A c l m) (v : Int) (n : Int) (y : Int) (ht : lebTake (l.take m) ix = (v, n, y)) (hy : y ≠ 0) :
    Calls Tryd.prog 80 #[.pointer (some ⟨b, 0, none⟩)] w fun x w' => x = .panicked (FailE y ix) ∧ RdW w' b A c l m ix e fa ∧ w.grownBy w' (some b) := by
  obtain ⟨h0, h1, h2, h3, h4, f1, f3, f4⟩ := rd_cells h
  obtain ⟨i0, hi0, hz0, hz1, hz2⟩ := info_parts leb_info
  have hm := hf.to_
  have hcutA := cut_to (P := Tryd.prog) 22 5 .i64 Tryd.underlying22 hi0 A l.length c (m : Int) (by omega) (by omega) hf.cap
  rw [Int.toNat_natCast] at hcutA
  have HT : Aside0 (∀ k, Calls Tryd.prog 115 #[.slice A m c, .int .i64 (ix : Int)] (w.drewN k) fun x w' => x = .returned (.tuple #[.int .u64 v, .int .i64 n, .int .i64 y]) ∧ ∃ j, w' = (w.drewN k).drewN j) := ⟨fun k => rd_Take b A c l m ix e fa _ (rd_below h (pw_below_drewN (Below.refl _ w) k)) hf _ ht⟩
  have HR := Aside0.mk (fun k => rd_below h (pw_below_drewN (Below.refl _ w) k))
  have hy' : (y == 0) = false := beq_eq_false_iff_ne.2 hy
  clear h hf ht hy
  go_enter Tryd.func80, Tryd.ntmps80
  go_wp2
  go_quiet ((go_at_call 115; exact Calls.quiet_of (HT.out _)))
  go_wp2_with (go_at_call 73; refine (wire_unless_not _ _ _).mono ?_; rintro e w1 ⟨rfl, rfl⟩)
  exact ⟨rfl, rfl, HR.out _, wgrown_drewN w _ b⟩
end Go.Proofs.YtmlbfepibfobaaaDoor.Hand
end

section
namespace Go.Proofs.YtmlbfepibfobaaaDoor.Hand
open Go.RowKit Go.Proofs.YtmlbfepibfobaaaDoorW.PrintWords Go.Proofs.YtmlbfepibfobaaaDoorW.PrintLast Go.Proofs.YtmlbfepibfobaaaDoorW.PrintMore
set_option linter.unusedVariables false
set_option linter.unusedSimpArgs false

theorem u64w {x : Int} (h0 : 0 ≤ x) (h1 : x < 18446744073709551616) : IntKind.u64.wrap x = x := wu64 h0 h1
set_option maxHeartbeats 4000000 in
theorem wire_num_some (b : Nat) (A : Option Addr) (c : Nat) (l : List Int) (m ix : Nat) (e fa : Int) (w : World) (h : RdW w b A c l m ix e fa) (hf : RdF b A c l m) (v : Int) (n : Nat) (ht : lebTake (l.take m) ix = (v, (n : Int), 0)) (most : Int) (h0 : 0 ≤ v) (h1 : v ≤ most) (h2 : most ≤ 9223372036854775807) :
    Calls Tryd.prog 75 #[.pointer (some ⟨b, 0, none⟩), .int .i64 most] w fun x w' => x = .returned (.int .i64 v) ∧ RdW w' b A c l m n e fa ∧ w.grownBy w' (some b) := by
  obtain ⟨c0, c1, c2, c3, c4, f1, f3, f4⟩ := rd_cells h
  have HB := Aside0.mk (wire_big_some b A c l m ix e fa w h hf v n ht)
  have hd0 : decide (most ≥ 0) = true := decide_eq_true (by omega)
  have hd1 : decide (0 ≤ most) = true := decide_eq_true (by omega)
  have hd2 : decide (v ≤ most) = true := decide_eq_true h1
  have hw1 : most % 18446744073709551616 = most := Int.emod_eq_of_lt (by omega) (by omega)
  have hw2 : IntKind.i64.wrap v = v := IntWalk.i64_in _ ⟨by omega, by omega⟩
  have hw3 : IntKind.u64.wrap most = most := u64w (by omega) (by omega)
  clear h hf ht
  go_enter Tryd.func75, Tryd.ntmps75
  go_wp2_with (first | (go_at_call 80; refine HB.out.mono ?_; rintro e w1 ⟨rfl, hr1, hg1⟩) | (go_at_call 73; refine (wire_unless _ _ _).mono ?_; rintro e w1 ⟨rfl, rfl⟩))
  exact bodyPost_ret (results_tmp rfl _ _ _) rfl ⟨rfl, hr1, hg1⟩
set_option maxHeartbeats 4000000 in
theorem wire_num_bad (b : Nat) (A : Option Addr) (c : Nat) (l : List Int) (m ix : Nat) (e fa : Int) (w : World) (h : RdW w b A c l m ix e fa) (hf : RdF b A c l m) (v : Int) (n y : Int) (ht : lebTake (l.take m) ix = (v, n, y)) (hy : y ≠ 0) (most : Int) :
    Calls Tryd.prog 75 #[.pointer (some ⟨b, 0, none⟩), .int .i64 most] w fun x w' => x = .panicked (FailE y ix) ∧ RdW w' b A c l m ix e fa ∧ w.grownBy w' (some b) := by
  obtain ⟨c0, c1, c2, c3, c4, f1, f3, f4⟩ := rd_cells h
  have HB := Aside0.mk (wire_big_none b A c l m ix e fa w h hf v n y ht hy)
  clear h hf ht
  go_enter Tryd.func75, Tryd.ntmps75
  go_wp2_with (go_at_call 80; refine HB.out.mono ?_; rintro e w1 ⟨rfl, hr1, hg1⟩)
  exact ⟨rfl, rfl, hr1, hg1⟩
set_option maxHeartbeats 4000000 in
theorem wire_num_long (b : Nat) (A : Option Addr) (c : Nat) (l : List Int) (m ix : Nat) (e fa : Int) (w : World) (h : RdW w b A c l m ix e fa) (hf : RdF b A c l m) (v : Int) (n : Nat) (ht : lebTake (l.take m) ix = (v, (n : Int), 0)) (most : Int) (h0 : 0 ≤ v) (h1 : most < 0 ∨ most < v) (h2 : most ≤ 9223372036854775807) :
    Calls Tryd.prog 75 #[.pointer (some ⟨b, 0, none⟩), .int .i64 most] w fun x w' => x = .panicked (FailE 3 ix) ∧ RdW w' b A c l m n e fa ∧ w.grownBy w' (some b) := by
  obtain ⟨c0, c1, c2, c3, c4, f1, f3, f4⟩ := rd_cells h
  have HB := Aside0.mk (wire_big_some b A c l m ix e fa w h hf v n ht)
  by_cases hp : most < 0
  · have hd0 : decide (most ≥ 0) = false := decide_eq_false (by omega)
    have hd1 : decide (0 ≤ most) = false := decide_eq_false (by omega)
    clear h hf ht
    go_enter Tryd.func75, Tryd.ntmps75
    go_wp2_with (first | (go_at_call 80; refine HB.out.mono ?_; rintro e w1 ⟨rfl, hr1, hg1⟩) | (go_at_call 73; refine (wire_unless_not _ _ _).mono ?_; rintro e w1 ⟨rfl, rfl⟩))
    exact ⟨rfl, rfl, hr1, hg1⟩
  · have hd0 : decide (most ≥ 0) = true := decide_eq_true (by omega)
    have hd1 : decide (0 ≤ most) = true := decide_eq_true (by omega)
    have hd2 : decide (v ≤ most) = false := decide_eq_false (by omega)
    have hw1 : most % 18446744073709551616 = most := Int.emod_eq_of_lt (by omega) (by omega)
    have hw3 : IntKind.u64.wrap most = most := u64w (by omega) (by omega)
    clear h hf ht
    go_enter Tryd.func75, Tryd.ntmps75
    go_wp2_with (first | (go_at_call 80; refine HB.out.mono ?_; rintro e w1 ⟨rfl, hr1, hg1⟩) | (go_at_call 73; refine (wire_unless_not _ _ _).mono ?_; rintro e w1 ⟨rfl, rfl⟩))
    exact ⟨rfl, rfl, hr1, hg1⟩
/-- So many numbers, from a place on. -/
def cutN (l : List Int) (ix n : Nat) : List Int := (l.take (ix + n)).drop ix
theorem cutN_len {l : List Int} {ix n : Nat} (h : ix + n ≤ l.length) : (cutN l ix n).length = n := by
  unfold cutN
  rw [List.length_drop, List.length_take]
  omega
set_option maxHeartbeats 4000000 in
theorem wire_some_some (b : Nat) (A : Option Addr) (c : Nat) (l : List Int) (m ix : Nat) (e fa : Int) (w : World) (h : RdW w b A c l m ix e fa) (hf : RdF b A c l m) (n : Nat) (hn : ix + n ≤ m) :
    Calls Tryd.prog 77 #[.pointer (some ⟨b, 0, none⟩), .int .i64 (n : Int)] w fun x w' => (∃ A', x = .returned (.slice A' n n) ∧ Kd.C (Kd.int .u8) w' A' n (cutN l ix n)) ∧ RdW w' b A c l m (ix + n) e fa ∧ w.grownBy w' (some b) := by
  obtain ⟨c0, c1, c2, c3, c4, f1, f3, f4⟩ := rd_cells h
  obtain ⟨i0, hi0, hz0, hz1, hz2⟩ := info_parts leb_info
  have hl := hf.len
  have hm := hf.to_
  have hc := hf.cap
  have hd : decide ((m : Int) - ix ≥ n) = true := decide_eq_true (by omega)
  have hd' : decide ((n : Int) ≤ (m : Int) - ix) = true := decide_eq_true (by omega)
  have hw0 : IntKind.i64.wrap ((m : Int) - ix) = (m : Int) - ix := IntWalk.i64_in _ ⟨by omega, by omega⟩
  have hsum : IntKind.i64.wrap ((ix : Int) + n) = (ix : Int) + n := IntWalk.i64_in _ ⟨by omega, by omega⟩
  have hsub : IntKind.i64.wrap ((ix : Int) + n - n) = (ix : Int) := by rw [show (ix : Int) + n - n = ix by omega]; exact IntWalk.i64_in _ ⟨by omega, by omega⟩
  have hsub' : IntKind.i64.wrap (ix : Int) = (ix : Int) := IntWalk.i64_in _ ⟨by omega, by omega⟩
  obtain ⟨A', hA'⟩ : ∃ A', A' = (if ix + n = ix then A else A.map (·.add (ix * 1))) := ⟨_, rfl⟩
  have hcut : ∀ W : World, (Instr.slice 22 (.slice A l.length c) (some (.int .i64 (ix : Int))) (some (.int .i64 ((ix : Int) + n))) (some (.int .i64 ((ix : Int) + n)))).run Tryd.prog W = .ok (.slice A' n n) W := fun W => by
    have hel : Tryd.prog.elem 22 = 5 := by simp [Program.elem, Tryd.underlying22]
    have hu : Tryd.prog.underlying 22 = some (.slice (Tryd.prog.elem 22)) := by rw [hel]; exact Tryd.underlying22
    rw [run_slice_lhm W 22 A l.length c hu .i64 .i64 .i64 ix ((ix : Int) + n) ((ix : Int) + n) (by omega) (by omega) (by omega) (by omega), hel]
    have e1 : ((ix : Int) + n).toNat = ix + n := by omega
    have e2 : ix + n - ix = n := by omega
    simp [sizeOf, typeInfo, hi0, hz1, sliced, Result.andThen, e1, e2, hA']
  have HR := Aside0.mk (fun k => rd_set1 (rd_below h (pw_below_drewN (Below.refl _ w) k)) hf.far (ix + n))
  have HC : Aside0 (∀ w', RdW w' b A c l m (ix + n) e fa → Kd.C (Kd.int .u8) w' A' n (cutN l ix n)) := ⟨fun w' hr => by
    have := Kd.C_mid (lo := ix) (hi := ix + n) (c := ix + n) (rd_take hr (ix + n) (by omega)) (by omega) (by rw [take_len (by omega)]; omega) (by rw [take_len (by omega)]; omega)
    rw [List.take_take, Nat.min_self] at this
    have hlen := cutN_len (l := l) (ix := ix) (n := n) (by omega)
    unfold cutN at hlen ⊢
    rw [hlen] at this
    rw [hA']
    exact this⟩
  clear h hf hA'
  go_enter Tryd.func77, Tryd.ntmps77
  go_wp2
  go_quiet ((go_at_call 73; exact Calls.quiet_of_same (wire_unless _ _ _)))
  go_wp2
  go_quiet (fail)
  go_wp2
  exact bodyPost_ret (results_tmp rfl _ _ _) rfl ⟨⟨A', rfl, HC.out _ (rd_below (HR.out _) (pw_below_drewN (Below.refl _ _) _))⟩, rd_below (HR.out _) (pw_below_drewN (Below.refl _ _) _), ((wgrown_drewN w _ b).trans (wgrown_setCell _ ⟨b, 1, none⟩ _)).trans (wgrown_drewN _ _ b)⟩
end Go.Proofs.YtmlbfepibfobaaaDoor.Hand
end

section
namespace Go.Proofs.YtmlbfepibfobaaaDoor.Hand
open Go.RowKit Go.Proofs.YtmlbfepibfobaaaDoorW.PrintWords Go.Proofs.YtmlbfepibfobaaaDoorW.PrintLast Go.Proofs.YtmlbfepibfobaaaDoorW.PrintMore
set_option linter.unusedVariables false
set_option linter.unusedSimpArgs false

set_option maxRecDepth 20000 in
set_option maxHeartbeats 4000000 in
theorem wire_some_none (b : Nat) (A : Option Addr) (c : Nat) (l : List Int) (m ix : Nat) (e fa : Int) (w : World) (h : RdW w b A c l m ix e fa) (hf : RdF b A c l m) (n : Nat) (hi : ix ≤ m) (hn : m < ix + n) (hn2 : n ≤ 1048576) :
    Calls Tryd.prog 77 #[.pointer (some ⟨b, 0, none⟩), .int .i64 (n : Int)] w fun x w' => x = .panicked (FailE 2 ix) ∧ RdW w' b A c l m ix e fa ∧ w.grownBy w' (some b) := by
  have hl := hf.len
  have hm := hf.to_
  have hd : decide ((m : Int) - ix ≥ n) = false := decide_eq_false (by omega)
  have hd' : decide ((n : Int) ≤ (m : Int) - ix) = false := decide_eq_false (by omega)
  have hw0 : IntKind.i64.wrap ((m : Int) - ix) = (m : Int) - ix := IntWalk.i64_in _ ⟨by omega, by omega⟩
  have hw1 : wrap64 ((m : Int) - ix) = (m : Int) - ix := w64 (by omega) (by omega)
  have hB := below_drew1 (Below.refl w.heap.size w)
  have h' := rd_below h hB
  obtain ⟨h0, h1, h2, h3, h4, f1, f3, f4⟩ := rd_cells h'
  have hs : w.drew.cell? ⟨b, 1, none⟩ = some (.int .i64 (ix : Int)) ∧ w.drew.cell? ⟨b, 2, none⟩ = some (.int .i64 (m : Int)) ∧ w.grownBy w.drew (some b) ∧ RdW w.drew b A c l m ix e fa := ⟨h1, h2, grown_of_below hB _, h'⟩
  clear h0 h1 h2 h3 h4 f1 f3 f4 hB h h' hf
  go_enter Tryd.func77, Tryd.ntmps77
  go_wp2
  refine start_ (n := 16) (S := fun w' => w'.cell? ⟨b, 1, none⟩ = some (.int .i64 (ix : Int)) ∧ w'.cell? ⟨b, 2, none⟩ = some (.int .i64 (m : Int)) ∧ w.grownBy w' (some b) ∧ RdW w' b A c l m ix e fa) (ds := []) #[false, false, false, false, false, false, false, false, false, false, false, false, false, false, false, false] (by kernel_rfl) rfl rfl hs (fun hHeld => ?_)
  kp 0 5 #[true, false, false, false, false, false, false, false, false, false, false, false, false, false, false, false]
  kp 1 6 #[true, true, false, false, false, false, false, false, false, false, false, false, false, false, false, false]
  kp 2 7 #[true, true, true, false, false, false, false, false, false, false, false, false, false, false, false, false]
  kp 3 8 #[true, true, true, true, false, false, false, false, false, false, false, false, false, false, false, false]
  kp 4 9 #[true, true, true, true, true, false, false, false, false, false, false, false, false, false, false, false]
  kp 5 10 #[true, true, true, true, true, true, false, false, false, false, false, false, false, false, false, false]
  kp 6 11 #[true, true, true, true, true, true, true, false, false, false, false, false, false, false, false, false]
  kp 7 12 #[true, true, true, true, true, true, true, true, false, false, false, false, false, false, false, false]
  kp 8 13 #[true, true, true, true, true, true, true, true, true, false, false, false, false, false, false, false]
  kp 9 14 #[true, true, true, true, true, true, true, true, true, true, false, false, false, false, false, false]
  kp 10 15 #[true, true, true, true, true, true, true, true, true, true, true, false, false, false, false, false]
  kp 11 16 #[true, true, true, true, true, true, true, true, true, true, true, true, false, false, false, false]
  kp 12 17 #[true, true, true, true, true, true, true, true, true, true, true, true, true, false, false, false]
  kp 13 18 #[true, true, true, true, true, true, true, true, true, true, true, true, true, true, false, false]
  kp 14 19 #[true, true, true, true, true, true, true, true, true, true, true, true, true, true, true, false]
  refine one_ (i := 15) (N := some 20) #[true, true, true, true, true, true, true, true, true, true, true, true, true, true, true, true] rfl rfl (by kernel_rfl) (by decide) (fun K hK => ?_)
  refine goesP_ Tryd.func73 (by kernel_rfl) rfl #[.bool false, .int .i64 2, .int .i64 ix] (by rfl) rfl (by simp only [List.map_toArray, List.map_cons, List.map_nil]; rfl) ?_
  refine (wire_unless_not _ _ _).mono ?_
  rintro e w3 ⟨rfl, rfl⟩
  exact ⟨_, rfl, rfl, rfl, hHeld.2.2.2, hHeld.2.2.1⟩
/-- What a read that gives up leaves. -/
def fellW (w : World) (b : Nat) (y fa : Int) : World := (((w.setCell ⟨b, 1, none⟩ (.int .i64 fa)).setCell ⟨b, 3, none⟩ (.int .i64 y)).setCell ⟨b, 4, none⟩ (.int .i64 fa)).alloc (.cells #[.int .i64 y, .int .i64 fa] 130)
theorem rd_fell {w : World} {b : Nat} {A : Option Addr} {c : Nat} {l : List Int} {m j : Nat} {e f : Int} (h : RdW w b A c l m j e f) (hA : ∀ ad, A = some ad → ad.block ≠ b) (y : Int) (n k : Nat) : RdW ((fellW w b y n).drewN k) b A c l m n y n :=
  rd_below (rd_below (rd_set4 (rd_set3 (rd_set1 h hA n) hA y) hA n) (below_alloc (Below.refl _ _) _)) (pw_below_drewN (Below.refl _ _) _)
theorem fell_grown (w : World) (b : Nat) (y fa : Int) (k : Nat) : w.grownBy ((fellW w b y fa).drewN k) (some b) :=
  ((((wgrown_setCell w ⟨b, 1, none⟩ _).trans (wgrown_setCell _ ⟨b, 3, none⟩ _)).trans (wgrown_setCell _ ⟨b, 4, none⟩ _)).trans (World.grownBy_alloc _ _ _)).trans (wgrown_drewN _ k b)
set_option maxRecDepth 100000 in
set_option maxHeartbeats 4000000 in
theorem wire_catch (b : Nat) (A : Option Addr) (c : Nat) (l : List Int) (m j : Nat) (e f : Int) (y fa : Int) (older : List PanicEntry) (w : World) (h : RdW w b A c l m j e f) :
    CallsD Tryd.prog 72 #[.pointer (some ⟨b, 0, none⟩)] (.panicking ({ v := .iface 130 (.agg #[.int .i64 y, .int .i64 fa]), recovered := false } :: older)) w fun x' u' w' =>
      x' = .returned (.tuple #[]) ∧ u' = .panicking ({ v := .iface 130 (.agg #[.int .i64 y, .int .i64 fa]), recovered := true } :: older) ∧ ∃ k, w' = (fellW w b y fa).drewN k := by
  have hq : ∀ (w : World), (binOp .eql 20 (.iface 130 (.agg #[.int .i64 y, .int .i64 fa])) .nilIface).run Tryd.prog w = .ok (.bool false) w := fun _ => by kernel_rfl
  have hta : ∀ (w : World), (Instr.typeAssert (.iface 130 (.agg #[.int .i64 y, .int .i64 fa])) 20 130 true).run Tryd.prog w = .ok (.tuple #[.agg #[.int .i64 y, .int .i64 fa], .bool true]) w := fun _ => by kernel_rfl
  obtain ⟨h0, h1, h2, h3, h4, f1, f3, f4⟩ := rd_cells h
  have hlt := rd_lt h
  refine callsD_of_wpS Tryd.func72 rfl fun c₀ cs hu => ?_
  apply wpS_seq
  apply wpS_region
  simp [wpOpsS, go_sem, recoverD, hu, Tryd.ntmps72, Exit.thenS]
  refine wpS_of_wp ?_
  simp only [List.size_toArray, List.length_cons, List.length_nil, Nat.reduceAdd, Nat.reduceSub, Array.replicate_succ, Array.replicate_zero, List.push_toArray, List.append_toArray, List.nil_append, List.cons_append, List.setIfInBounds_toArray, List.set_cons_zero, List.set_cons_succ]
  go_wp2
  go_region
  all_goals go_wp2
  cases c₀
  simp_all [bodyPostS, results, Tryd.results72, go_sem]
  exact ⟨1, rfl⟩
set_option maxHeartbeats 4000000 in
theorem wire_catch_idle (p : Addr) (w : World) :
    CallsD Tryd.prog 72 #[.pointer (some p)] .returning w fun x' u' w' => x' = .returned (.tuple #[]) ∧ u' = .returning ∧ w' = w := by
  have hq : ∀ (w : World), (binOp .eql 20 .nilIface .nilIface).run Tryd.prog w = .ok (.bool true) w := fun w => run_eql_nil_nil w 20 (by kernel_rfl)
  refine callsD_of_wpS Tryd.func72 rfl fun c₀ cs hu => ?_
  apply wpS_seq
  apply wpS_region
  simp [wpOpsS, go_sem, recoverD, hu, Tryd.ntmps72, Exit.thenS]
  refine wpS_of_wp ?_
  simp only [List.size_toArray, List.length_cons, List.length_nil, Nat.reduceAdd, Nat.reduceSub, Array.replicate_succ, Array.replicate_zero, List.push_toArray, List.append_toArray, List.nil_append, List.cons_append, List.setIfInBounds_toArray, List.set_cons_zero, List.set_cons_succ]
  go_wp2
  cases c₀
  simp_all [bodyPostS, results, Tryd.results72, go_sem]
set_option maxHeartbeats 4000000 in
theorem wire_Byte_some (b : Nat) (A : Option Addr) (c : Nat) (l : List Int) (m ix : Nat) (fa : Int) (w : World) (h : RdW w b A c l m ix 0 fa) (hf : RdF b A c l m) (hi : ix < m) :
    Calls Tryd.prog 84 #[.pointer (some ⟨b, 0, none⟩)] w fun x w' => x = .returned (.int .u8 (l.getD ix 0)) ∧ RdW w' b A c l m (ix + 1) 0 fa ∧ w.grownBy w' (some b) := by
  have H1 := Aside0.mk (wire_ready b A c l m ix 0 fa w h)
  have H2 := Aside0.mk (wire_one_some b A c l m ix 0 fa w h hf hi)
  clear h hf
  go_enter_defers Tryd.func84, Tryd.ntmps84
  go_wp2_with (first | (go_at_call 71; refine H1.out.mono ?_; rintro e w1 ⟨rfl, rfl⟩) | (go_at_call 74; refine H2.out.mono ?_; rintro e w1 ⟨rfl, hr1, hg1⟩))
  refine leaves_cons (f := 72) (args := #[.pointer (some ⟨b, 0, none⟩)]) (by simp) (by simp [go_sem]) ?_
  refine (wire_catch_idle ⟨b, 0, none⟩ _).mono ?_
  rintro e u' w'' ⟨rfl, rfl, rfl⟩
  simp [Leaves, settle, results, Tryd.results84, go_sem]
  exact ⟨hr1, hg1⟩
set_option maxHeartbeats 4000000 in
theorem wire_Byte_none (b : Nat) (A : Option Addr) (c : Nat) (l : List Int) (m ix : Nat) (fa : Int) (w : World) (h : RdW w b A c l m ix 0 fa) (hf : RdF b A c l m) (hi : m ≤ ix) :
    Calls Tryd.prog 84 #[.pointer (some ⟨b, 0, none⟩)] w fun x w' => x = .returned (.int .u8 0) ∧ RdW w' b A c l m ix 2 ix ∧ w.grownBy w' (some b) := by
  have H1 := Aside0.mk (wire_ready b A c l m ix 0 fa w h)
  have H2 := Aside0.mk (wire_one_none b A c l m ix 0 fa w h hf hi)
  have HA := Aside0.mk hf.far
  clear h hf
  go_enter_defers Tryd.func84, Tryd.ntmps84
  go_wp2_with (first | (go_at_call 71; refine H1.out.mono ?_; rintro e w1 ⟨rfl, rfl⟩) | (go_at_call 74; refine H2.out.mono ?_; rintro e w1 ⟨rfl, hr1, hg1⟩))
  refine leaves_cons (f := 72) (args := #[.pointer (some ⟨b, 0, none⟩)]) (by simp) (by simp [go_sem]) ?_
  refine (wire_catch b A c l m _ _ _ 2 ix [] _ hr1).mono ?_
  rintro e u' w'' ⟨rfl, rfl, k, rfl⟩
  simp [Leaves, settle, results, Tryd.results84, go_sem]
  exact ⟨rd_fell hr1 HA.out 2 ix k, hg1.trans (fell_grown _ b 2 ix k)⟩
end Go.Proofs.YtmlbfepibfobaaaDoor.Hand
end

section
namespace Go.Proofs.YtmlbfepibfobaaaDoor.Hand
open Go.RowKit Go.Proofs.YtmlbfepibfobaaaDoorW.PrintWords Go.Proofs.YtmlbfepibfobaaaDoorW.PrintLast Go.Proofs.YtmlbfepibfobaaaDoorW.PrintMore
set_option linter.unusedVariables false
set_option linter.unusedSimpArgs false

theorem take_range {l : List Int} {m ix : Nat} {v z : Int} (hl : l.all byteB = true) (hm : m ≤ l.length) (ht : lebTake (l.take m) ix = (v, z, 0)) : ∃ n : Nat, z = (n : Int) ∧ ix < n ∧ n ≤ m := by
  have := lebTake_range (l.take m) ix (by rw [ht])
  rw [ht, take_len hm] at this
  obtain ⟨h1, h2⟩ := this
  exact ⟨z.toNat, by dsimp only at h1 h2; omega, by dsimp only at h1 h2; omega, by dsimp only at h1 h2; omega⟩

set_option maxHeartbeats 8000000 in
set_option maxRecDepth 20000 in
theorem wire_Num_some (b : Nat) (A : Option Addr) (c : Nat) (l : List Int) (m ix : Nat) (fa : Int) (w : World) (h : RdW w b A c l m ix 0 fa) (hf : RdF b A c l m) (v : Int) (n : Nat) (ht : lebTake (l.take m) ix = (v, (n : Int), 0)) (most : Int) (h0 : 0 ≤ v) (h1 : v ≤ most) (h2 : most ≤ 9223372036854775807) :
    Calls Tryd.prog 28 #[.pointer (some ⟨b, 0, none⟩), .int .i64 most] w fun x w' => x = .returned (.int .i64 v) ∧ RdW w' b A c l m n 0 fa ∧ w.grownBy w' (some b) := by
  have H1 := Aside0.mk (wire_ready b A c l m ix 0 fa w h)
  have HA := Aside0.mk hf.far
  have H2 := Aside0.mk (wire_num_some b A c l m ix 0 fa w h hf v n ht most h0 h1 h2)
  clear h hf ht
  go_enter_defers Tryd.func28, Tryd.ntmps28
  go_wp2_with (first | (go_at_call 71; refine H1.out.mono ?_; rintro e w1 ⟨rfl, rfl⟩) | (go_at_call 75; refine H2.out.mono ?_; rintro e w2 ⟨rfl, hr2, hg2⟩))
  refine leaves_cons (f := 72) (args := #[.pointer (some ⟨b, 0, none⟩)]) (by simp) (by simp [go_sem]) ?_
  refine (wire_catch_idle ⟨b, 0, none⟩ _).mono ?_
  rintro e u' w'' ⟨rfl, rfl, rfl⟩
  simp [Leaves, settle, results, Tryd.results28, go_sem]
  exact ⟨hr2, hg2⟩

set_option maxHeartbeats 8000000 in
set_option maxRecDepth 20000 in
theorem wire_Num_bad (b : Nat) (A : Option Addr) (c : Nat) (l : List Int) (m ix : Nat) (fa : Int) (w : World) (h : RdW w b A c l m ix 0 fa) (hf : RdF b A c l m) (v n y : Int) (ht : lebTake (l.take m) ix = (v, n, y)) (hy : y ≠ 0) (most : Int) :
    Calls Tryd.prog 28 #[.pointer (some ⟨b, 0, none⟩), .int .i64 most] w fun x w' => x = .returned (.int .i64 0) ∧ RdW w' b A c l m ix y ix ∧ w.grownBy w' (some b) := by
  have H1 := Aside0.mk (wire_ready b A c l m ix 0 fa w h)
  have HA := Aside0.mk hf.far
  have H2 := Aside0.mk (wire_num_bad b A c l m ix 0 fa w h hf v n y ht hy most)
  clear h hf ht
  go_enter_defers Tryd.func28, Tryd.ntmps28
  go_wp2_with (first | (go_at_call 71; refine H1.out.mono ?_; rintro e w1 ⟨rfl, rfl⟩) | (go_at_call 75; refine H2.out.mono ?_; rintro e w2 ⟨rfl, hr2, hg2⟩))
  refine leaves_cons (f := 72) (args := #[.pointer (some ⟨b, 0, none⟩)]) (by simp) (by simp [go_sem]) ?_
  refine (wire_catch b A c l m _ _ _ y ix [] _ hr2).mono ?_
  rintro e u' w'' ⟨rfl, rfl, k, rfl⟩
  simp [Leaves, settle, results, Tryd.results28, go_sem]
  exact ⟨rd_fell hr2 HA.out y ix k, hg2.trans (fell_grown _ b y ix k)⟩

set_option maxHeartbeats 8000000 in
set_option maxRecDepth 20000 in
theorem wire_Num_long (b : Nat) (A : Option Addr) (c : Nat) (l : List Int) (m ix : Nat) (fa : Int) (w : World) (h : RdW w b A c l m ix 0 fa) (hf : RdF b A c l m) (v : Int) (n : Nat) (ht : lebTake (l.take m) ix = (v, (n : Int), 0)) (most : Int) (h0 : 0 ≤ v) (h1 : most < 0 ∨ most < v) (h2 : most ≤ 9223372036854775807) :
    Calls Tryd.prog 28 #[.pointer (some ⟨b, 0, none⟩), .int .i64 most] w fun x w' => x = .returned (.int .i64 0) ∧ RdW w' b A c l m ix 3 ix ∧ w.grownBy w' (some b) := by
  have H1 := Aside0.mk (wire_ready b A c l m ix 0 fa w h)
  have HA := Aside0.mk hf.far
  have H2 := Aside0.mk (wire_num_long b A c l m ix 0 fa w h hf v n ht most h0 h1 h2)
  clear h hf ht
  go_enter_defers Tryd.func28, Tryd.ntmps28
  go_wp2_with (first | (go_at_call 71; refine H1.out.mono ?_; rintro e w1 ⟨rfl, rfl⟩) | (go_at_call 75; refine H2.out.mono ?_; rintro e w2 ⟨rfl, hr2, hg2⟩))
  refine leaves_cons (f := 72) (args := #[.pointer (some ⟨b, 0, none⟩)]) (by simp) (by simp [go_sem]) ?_
  refine (wire_catch b A c l m _ _ _ 3 ix [] _ hr2).mono ?_
  rintro e u' w'' ⟨rfl, rfl, k, rfl⟩
  simp [Leaves, settle, results, Tryd.results28, go_sem]
  exact ⟨rd_fell hr2 HA.out 3 ix k, hg2.trans (fell_grown _ b 3 ix k)⟩

set_option maxHeartbeats 8000000 in
set_option maxRecDepth 20000 in
theorem wire_Signed_some (b : Nat) (A : Option Addr) (c : Nat) (l : List Int) (m ix : Nat) (fa : Int) (w : World) (h : RdW w b A c l m ix 0 fa) (hf : RdF b A c l m) (v : Int) (n : Nat) (ht : lebTake (l.take m) ix = (v, (n : Int), 0)) (h0 : 0 ≤ v) (h1 : v < 18446744073709551616) :
    Calls Tryd.prog 29 #[.pointer (some ⟨b, 0, none⟩)] w fun x w' => x = .returned (.int .i64 (zagI v)) ∧ RdW w' b A c l m n 0 fa ∧ w.grownBy w' (some b) := by
  have H1 := Aside0.mk (wire_ready b A c l m ix 0 fa w h)
  have HA := Aside0.mk hf.far
  have H2 := Aside0.mk (wire_big_some b A c l m ix 0 fa w h hf v n ht)
  have HZ : Aside0 (∀ W, Calls Tryd.prog 79 #[.int .u64 v] W (fun e w' => e = .returned (.int .i64 (zagI v)) ∧ Drawn0 W w')) := ⟨fun W => leb_Zag.calls v _ W (by unfold leb_Zag.f; rw [if_pos ⟨h0, h1⟩])⟩
  clear h hf ht
  go_enter_defers Tryd.func29, Tryd.ntmps29
  go_wp2_with (first | (go_at_call 71; refine H1.out.mono ?_; rintro e w1 ⟨rfl, rfl⟩) | (go_at_call 80; refine H2.out.mono ?_; rintro e w2 ⟨rfl, hr2, hg2⟩) | (go_at_call 79; refine (HZ.out _).mono ?_; rintro e w3 ⟨rfl, hD⟩))
  refine leaves_cons (f := 72) (args := #[.pointer (some ⟨b, 0, none⟩)]) (by simp) (by simp [go_sem]) ?_
  refine (wire_catch_idle ⟨b, 0, none⟩ _).mono ?_
  rintro e u' w'' ⟨rfl, rfl, rfl⟩
  simp [Leaves, settle, results, Tryd.results29, go_sem]
  exact ⟨rd_below hr2 hD.below, hg2.trans (grown_of_below hD.below _)⟩

set_option maxHeartbeats 8000000 in
set_option maxRecDepth 20000 in
theorem wire_Signed_bad (b : Nat) (A : Option Addr) (c : Nat) (l : List Int) (m ix : Nat) (fa : Int) (w : World) (h : RdW w b A c l m ix 0 fa) (hf : RdF b A c l m) (v n y : Int) (ht : lebTake (l.take m) ix = (v, n, y)) (hy : y ≠ 0) :
    Calls Tryd.prog 29 #[.pointer (some ⟨b, 0, none⟩)] w fun x w' => x = .returned (.int .i64 0) ∧ RdW w' b A c l m ix y ix ∧ w.grownBy w' (some b) := by
  have H1 := Aside0.mk (wire_ready b A c l m ix 0 fa w h)
  have HA := Aside0.mk hf.far
  have H2 := Aside0.mk (wire_big_none b A c l m ix 0 fa w h hf v n y ht hy)
  clear h hf ht
  go_enter_defers Tryd.func29, Tryd.ntmps29
  go_wp2_with (first | (go_at_call 71; refine H1.out.mono ?_; rintro e w1 ⟨rfl, rfl⟩) | (go_at_call 80; refine H2.out.mono ?_; rintro e w2 ⟨rfl, hr2, hg2⟩))
  refine leaves_cons (f := 72) (args := #[.pointer (some ⟨b, 0, none⟩)]) (by simp) (by simp [go_sem]) ?_
  refine (wire_catch b A c l m _ _ _ y ix [] _ hr2).mono ?_
  rintro e u' w'' ⟨rfl, rfl, k, rfl⟩
  simp [Leaves, settle, results, Tryd.results29, go_sem]
  exact ⟨rd_fell hr2 HA.out y ix k, hg2.trans (fell_grown _ b y ix k)⟩

set_option maxHeartbeats 8000000 in
set_option maxRecDepth 20000 in
theorem wire_Text_some (b : Nat) (A : Option Addr) (c : Nat) (l : List Int) (m ix : Nat) (fa : Int) (w : World) (h : RdW w b A c l m ix 0 fa) (hf : RdF b A c l m) (v : Int) (n : Nat) (ht : lebTake (l.take m) ix = (v, (n : Int), 0)) (j : Nat) (hv : v = (j : Int)) (h1 : j ≤ 64) (hn : n + j ≤ m) :
    Calls Tryd.prog 27 #[.pointer (some ⟨b, 0, none⟩)] w fun x w' => x = .returned (.string (strOfNums (cutN l n j))) ∧ RdW w' b A c l m (n + j) 0 fa ∧ w.grownBy w' (some b) := by
  have H1 := Aside0.mk (wire_ready b A c l m ix 0 fa w h)
  have HA := Aside0.mk hf.far
  have H2 := Aside0.mk (wire_num_some b A c l m ix 0 fa w h hf v n ht 64 (by omega) (by omega) (by omega))
  subst hv
  have hm := hf.to_
  have hstr : ∀ A' W, Kd.C (Kd.int .u8) W A' j (cutN l n j) → (convert 22 9 (.slice A' j j)).run Tryd.prog W = .ok (.string (strOfNums (cutN l n j))) W := fun A' W hC => Kd.C_string (e := 5) (by kernel_rfl) (by kernel_rfl) (by kernel_rfl) hC
  have HS := Aside0.mk (fun W hr => wire_some_some b A c l m n 0 fa W hr hf j hn)
  clear h hf ht
  go_enter_defers Tryd.func27, Tryd.ntmps27
  go_wp2_with (first | (go_at_call 71; refine H1.out.mono ?_; rintro e w1 ⟨rfl, rfl⟩) | (go_at_call 75; refine H2.out.mono ?_; rintro e w2 ⟨rfl, hr2, hg2⟩) | (go_at_call 77; refine (HS.out _ hr2).mono ?_; rintro e w3 ⟨⟨A', rfl, hC⟩, hr3, hg3⟩; have hcv := hstr A' w3 hC))
  refine leaves_cons (f := 72) (args := #[.pointer (some ⟨b, 0, none⟩)]) (by simp) (by simp [go_sem]) ?_
  refine (wire_catch_idle ⟨b, 0, none⟩ _).mono ?_
  rintro e u' w'' ⟨rfl, rfl, rfl⟩
  simp [Leaves, settle, results, Tryd.results27, go_sem]
  exact ⟨hr3, hg2.trans hg3⟩

set_option maxHeartbeats 8000000 in
set_option maxRecDepth 20000 in
theorem wire_Text_short (b : Nat) (A : Option Addr) (c : Nat) (l : List Int) (m ix : Nat) (fa : Int) (w : World) (h : RdW w b A c l m ix 0 fa) (hf : RdF b A c l m) (v : Int) (n : Nat) (ht : lebTake (l.take m) ix = (v, (n : Int), 0)) (j : Nat) (hv : v = (j : Int)) (h1 : j ≤ 64) (hnm : n ≤ m) (hn : m < n + j) :
    Calls Tryd.prog 27 #[.pointer (some ⟨b, 0, none⟩)] w fun x w' => x = .returned (.string ⟨#[]⟩) ∧ RdW w' b A c l m n 2 n ∧ w.grownBy w' (some b) := by
  have H1 := Aside0.mk (wire_ready b A c l m ix 0 fa w h)
  have HA := Aside0.mk hf.far
  have H2 := Aside0.mk (wire_num_some b A c l m ix 0 fa w h hf v n ht 64 (by omega) (by omega) (by omega))
  subst hv
  have HS := Aside0.mk (fun W hr => wire_some_none b A c l m n 0 fa W hr hf j hnm hn (by omega))
  clear h hf ht
  go_enter_defers Tryd.func27, Tryd.ntmps27
  go_wp2_with (first | (go_at_call 71; refine H1.out.mono ?_; rintro e w1 ⟨rfl, rfl⟩) | (go_at_call 75; refine H2.out.mono ?_; rintro e w2 ⟨rfl, hr2, hg2⟩) | (go_at_call 77; refine (HS.out _ hr2).mono ?_; rintro e w3 ⟨rfl, hr3, hg3⟩))
  refine leaves_cons (f := 72) (args := #[.pointer (some ⟨b, 0, none⟩)]) (by simp) (by simp [go_sem]) ?_
  refine (wire_catch b A c l m _ _ _ 2 n [] _ hr3).mono ?_
  rintro e u' w'' ⟨rfl, rfl, k, rfl⟩
  simp [Leaves, settle, results, Tryd.results27, go_sem]
  exact ⟨rd_fell hr3 HA.out 2 n k, (hg2.trans hg3).trans (fell_grown _ b 2 n k)⟩

set_option maxHeartbeats 8000000 in
set_option maxRecDepth 20000 in
theorem wire_Text_bad (b : Nat) (A : Option Addr) (c : Nat) (l : List Int) (m ix : Nat) (fa : Int) (w : World) (h : RdW w b A c l m ix 0 fa) (hf : RdF b A c l m) (v n y : Int) (ht : lebTake (l.take m) ix = (v, n, y)) (hy : y ≠ 0) :
    Calls Tryd.prog 27 #[.pointer (some ⟨b, 0, none⟩)] w fun x w' => x = .returned (.string ⟨#[]⟩) ∧ RdW w' b A c l m ix y ix ∧ w.grownBy w' (some b) := by
  have H1 := Aside0.mk (wire_ready b A c l m ix 0 fa w h)
  have HA := Aside0.mk hf.far
  have H2 := Aside0.mk (wire_num_bad b A c l m ix 0 fa w h hf v n y ht hy 64)
  clear h hf ht
  go_enter_defers Tryd.func27, Tryd.ntmps27
  go_wp2_with (first | (go_at_call 71; refine H1.out.mono ?_; rintro e w1 ⟨rfl, rfl⟩) | (go_at_call 75; refine H2.out.mono ?_; rintro e w2 ⟨rfl, hr2, hg2⟩))
  refine leaves_cons (f := 72) (args := #[.pointer (some ⟨b, 0, none⟩)]) (by simp) (by simp [go_sem]) ?_
  refine (wire_catch b A c l m _ _ _ y ix [] _ hr2).mono ?_
  rintro e u' w'' ⟨rfl, rfl, k, rfl⟩
  simp [Leaves, settle, results, Tryd.results27, go_sem]
  exact ⟨rd_fell hr2 HA.out y ix k, hg2.trans (fell_grown _ b y ix k)⟩

set_option maxHeartbeats 8000000 in
set_option maxRecDepth 20000 in
theorem wire_Text_long (b : Nat) (A : Option Addr) (c : Nat) (l : List Int) (m ix : Nat) (fa : Int) (w : World) (h : RdW w b A c l m ix 0 fa) (hf : RdF b A c l m) (v : Int) (n : Nat) (ht : lebTake (l.take m) ix = (v, (n : Int), 0)) (h0 : 0 ≤ v) (h1 : 64 < v) :
    Calls Tryd.prog 27 #[.pointer (some ⟨b, 0, none⟩)] w fun x w' => x = .returned (.string ⟨#[]⟩) ∧ RdW w' b A c l m ix 3 ix ∧ w.grownBy w' (some b) := by
  have H1 := Aside0.mk (wire_ready b A c l m ix 0 fa w h)
  have HA := Aside0.mk hf.far
  have H2 := Aside0.mk (wire_num_long b A c l m ix 0 fa w h hf v n ht 64 h0 (by omega) (by omega))
  clear h hf ht
  go_enter_defers Tryd.func27, Tryd.ntmps27
  go_wp2_with (first | (go_at_call 71; refine H1.out.mono ?_; rintro e w1 ⟨rfl, rfl⟩) | (go_at_call 75; refine H2.out.mono ?_; rintro e w2 ⟨rfl, hr2, hg2⟩))
  refine leaves_cons (f := 72) (args := #[.pointer (some ⟨b, 0, none⟩)]) (by simp) (by simp [go_sem]) ?_
  refine (wire_catch b A c l m _ _ _ 3 ix [] _ hr2).mono ?_
  rintro e u' w'' ⟨rfl, rfl, k, rfl⟩
  simp [Leaves, settle, results, Tryd.results27, go_sem]
  exact ⟨rd_fell hr2 HA.out 3 ix k, hg2.trans (fell_grown _ b 3 ix k)⟩

end Go.Proofs.YtmlbfepibfobaaaDoor.Hand
end
