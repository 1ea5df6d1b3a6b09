import Derived.Test.YtjlmliagkfjcgaaDoorHSeal
import Derived.ChangeKeysEq
import Derived.Laws.Cover3
namespace Go.Proofs.YtjlmliagkfjcgaaDoor.Hand
open Go.RowKit Go.Proofs.YtjlmliagkfjcgaaDoorW.PrintWords Go.Proofs.YtjlmliagkfjcgaaDoorW.PrintLast Go.Proofs.YtjlmliagkfjcgaaDoorW.PrintMore
set_option linter.unusedVariables false
set_option linter.unusedSimpArgs false

theorem u8_cells : Tryd.prog.cellsOf 5 = 1 := by kernel_rfl
theorem u8_item (a a' : Int) (xs ys : Array Value) (w : World) (is : List Nat) (i : Nat) (r : Bool) (hx : xs[i]? = some (.int .u8 a)) (hy : ys[i]? = some (.int .u8 a')) (h : (Op.eqItems 9999 5 1 xs ys is).run Tryd.prog w = .ok r w) :
    (Op.eqItems 9999 5 1 xs ys (i :: is)).run Tryd.prog w = .ok ((a == a') && r) w := by
  have px : (part 5 xs (i * 1)).run Tryd.prog w = .ok (.int .u8 a) w := by
    rw [Nat.mul_one]
    exact run_part_plain w (by kernel_rfl) hx
  have py : (part 5 ys (i * 1)).run Tryd.prog w = .ok (.int .u8 a') w := by
    rw [Nat.mul_one]
    exact run_part_plain w (by kernel_rfl) hy
  rw [Op.eqItems]
  simp only [Sem.run_bind, px, py, Result.andThen_ok, run_equalIn_int w 9998 5 .u8 .u8 a a' Tryd.underlying5]
  cases (a == a')
  · simp
  · simpa using h
theorem eqArr4 (a b c d a' b' c' d' : Int) (w : World) : (binOp .neq 38 (.agg #[.int .u8 a, .int .u8 b, .int .u8 c, .int .u8 d]) (.agg #[.int .u8 a', .int .u8 b', .int .u8 c', .int .u8 d'])).run Tryd.prog w = .ok (.bool (!((a == a') && ((b == b') && ((c == c') && ((d == d') && true)))))) w := by
  obtain ⟨i0, hi0, _⟩ := info_parts leb_info
  rw [run_neq_struct, show (10000 : Nat) = 9999 + 1 from rfl, run_equalIn_array w 9999 _ _ Tryd.underlying38 hi0, u8_cells]
  have hr : List.range 4 = [0, 1, 2, 3] := rfl
  rw [hr, u8_item a a' _ _ w [1, 2, 3] 0 _ rfl rfl (u8_item b b' _ _ w [2, 3] 1 _ rfl rfl (u8_item c c' _ _ w [3] 2 _ rfl rfl (u8_item d d' _ _ w [] 3 true rfl rfl (by rfl))))]
  rfl

theorem loadArr4 {w : World} {ad : Addr} {a b c d : Value} (h0 : w.cell? (ad.add 0) = some a) (h1 : w.cell? (ad.add 1) = some b) (h2 : w.cell? (ad.add 2) = some c) (h3 : w.cell? (ad.add 3) = some d) :
    (Instr.loadAt 38 (.pointer (some ad))).run Tryd.prog w = .ok (.agg #[a, b, c, d]) w := by
  have hl : (loadCells ad 4).run Tryd.prog w = .ok #[a, b, c, d] w :=
    run_loadCells_list (P := Tryd.prog) w ad [a, b, c, d] (fun j v hv => by
      match j, hv with
      | 0, hv => exact h0.trans (by simpa using hv)
      | 1, hv => exact h1.trans (by simpa using hv)
      | 2, hv => exact h2.trans (by simpa using hv)
      | 3, hv => exact h3.trans (by simpa using hv)
      | j + 4, hv => simp at hv)
  have hagg : (isAgg 38).run Tryd.prog w = .ok true w := by
    unfold isAgg
    rw [Sem.run_bind, run_underlying Tryd.underlying38 w]
    rfl
  have hs : (sizeOf 38).run Tryd.prog w = .ok 4 w := by
    obtain ⟨i, hi, hz⟩ := Option.map_eq_some_iff.1 (show (Tryd.prog.info? 38).map (·.size) = some 4 by kernel_rfl)
    simp [sizeOf, typeInfo, Sem.run_bind, hi, hz]
  simp [Instr.loadAt, Instr.sureAddr, loadVar, Sem.run_bind, hagg, hs, hl]

theorem load4_op {w : World} {ad : Addr} {a b c d : Value} (h0 : w.cell? (ad.add 0) = some a) (h1 : w.cell? (ad.add 1) = some b) (h2 : w.cell? (ad.add 2) = some c) (h3 : w.cell? (ad.add 3) = some d) :
    (do pure (.value (← Instr.loadAt 38 (.pointer (some ad)))) : Sem Next).run Tryd.prog w = .ok (.value (.agg #[a, b, c, d])) w := by
  rw [Sem.run_bind, loadArr4 h0 h1 h2 h3]
  rfl
theorem eq4_op (a b c d a' b' c' d' : Int) (w : World) (q : Bool) (hq : (!((a == a') && ((b == b') && ((c == c') && ((d == d') && true))))) = q) :
    (do pure (.value (← binOp .neq 38 (.agg #[.int .u8 a, .int .u8 b, .int .u8 c, .int .u8 d]) (.agg #[.int .u8 a', .int .u8 b', .int .u8 c', .int .u8 d']))) : Sem Next).run Tryd.prog w = .ok (.value (.bool q)) w := by
  rw [Sem.run_bind, eqArr4, hq]
  rfl
def openL (b : List Int) : List Int × Int := if b.length < 4 then ([], 2) else if b.drop (b.length - 4) = sumBytes (crcSum (b.take (b.length - 4))) then (b.take (b.length - 4), 0) else ([], 4)
def crc_Open.f (l0 : List Int) : Option (List Int × Int) := if l0.all byteB = true ∧ l0.length ≤ 70368744177664 then some (openL l0) else none
set_option maxHeartbeats 8000000 in
set_option maxRecDepth 100000 in
theorem crc_Open.calls (A0 : Option Addr) (c0 : Nat) (l0 : List Int) (r1 : List Int) (r2 : Int) (w : World) (hr0 : Kd.C (Kd.int .u8) w A0 l0.length l0) (hc0 : l0.length ≤ c0) (hGCrcTab : CrcTab w) (h : crc_Open.f l0 = some (r1, r2)) :
    Calls Tryd.prog 29 #[.slice A0 l0.length c0] w fun e w' => ∃ v0_ : Value, e = .returned (.tuple #[v0_, .int .i64 r2]) ∧ Kd.R (Kd.int .u8) 5 w' w.heap.size (fun _ => True) v0_ r1 ∧ Below w.heap.size w w' := by
  unfold crc_Open.f at h
  split at h
  · rename_i hg
    obtain ⟨hb, hl⟩ := hg
    have h := Option.some.inj h
    unfold openL at h
    by_cases hs : l0.length < 4
    · rw [if_pos hs] at h
      simp only [Prod.mk.injEq] at h
      obtain ⟨rfl, rfl⟩ := h
      clear hr0 hGCrcTab hb hl
      go_enter Tryd.func29, Tryd.ntmps29
      go_wp2
      go_ret2
      exact ⟨_, rfl, Kd.R_nil _ _ _ _ _, Below.refl _ _⟩
    · rw [if_neg hs] at h
      obtain ⟨n, hn⟩ : ∃ n, l0.length = n + 4 := ⟨l0.length - 4, by omega⟩
      have hn4 : l0.length - 4 = n := by omega
      rw [hn4] at h
      obtain ⟨i0, hi0, hz0, hz1, hz2⟩ := info_parts leb_info
      have hcutA := cut_to (P := Tryd.prog) 23 5 .i64 Tryd.underlying23 hi0 A0 l0.length c0 (n : Int) (by omega) (by omega) hc0
      obtain ⟨A8, hcutB, hA8, hC8⟩ := print_drop_of (P := Tryd.prog) (Value.int .u8) 0 23 5 .i64 Tryd.underlying23 hi0 hz1 A0 c0 l0 n (by omega) (by omega) hc0
      rw [Int.toNat_natCast] at hcutA hcutB hA8 hC8
      have HRB := Aside0.mk (hA8 _ (Kd.reads_of_C hr0))
      have HRA := Aside0.mk (show Kd.C (Kd.int .u8) w A0 (l0.take n).length (l0.take n) from Kd.C_of_reads (d := (0 : Int)) (h1 := fun _ => rfl) (by have := (Kd.reads_of_C (d := (0 : Int)) hr0).take_ n (by omega); rw [List.length_take, show min n l0.length = n by omega]; exact this))
      have hlen : (l0.drop n).length = 4 := by rw [List.length_drop]; omega
      rw [hlen] at hcutB
      have HB := Aside0.mk hb
      have HG := Aside0.mk hGCrcTab
      have HH := Aside0.mk h
      have HN := Aside0.mk hn
      have hns : decide (l0.length < 4) = false := decide_eq_false hs
      have hw1 : wrap64 ((l0.length : Int) - 4) = (n : Int) := by rw [w64 (by omega) (by omega)]; omega
      have hn4' : (l0.length : Int) - 4 = (n : Int) := by omega
      clear hr0 hGCrcTab hb h hs hA8 hC8 hn hn4
      obtain ⟨s, hs⟩ : ∃ s, s = crcSum (l0.take n) := ⟨_, rfl⟩
      have hsr := crcSum_range (l0.take n)
      rw [← hs] at hsr
      obtain ⟨hs0, hs1⟩ := hsr
      have hsum : crc_Sum.f (l0.take n) = some s := by
        unfold crc_Sum.f
        rw [if_pos, hs]
        exact List.all_eq_true.2 (fun x hx => List.all_eq_true.1 HB.out x (List.mem_of_mem_take hx))
      have hcl : slices_Clone_byte_byte.f (l0.take n) = some (l0.take n) := by
        unfold slices_Clone_byte_byte.f
        rw [if_pos (by rw [List.length_take]; omega)]
      have hlt : (l0.take n).length = n := by rw [List.length_take]; omega
      have HSum : Aside0 (∀ W, Below w.heap.size w W → Calls Tryd.prog 23 #[.slice A0 n c0] W (fun e w' => e = .returned (.int .u32 s) ∧ Drawn0 W w')) := ⟨fun W hW => by
        have := crc_Sum.calls A0 c0 (l0.take n) s W (Kd.C_below HRA.out hW) (by omega) (HG.out.below hW) hsum
        rw [hlt] at this
        exact this⟩
      have HClone : Aside0 (∀ W, Below w.heap.size w W → Calls Tryd.prog 89 #[.slice A0 n c0] W (fun e w' => ∃ v0_ : Value, e = .returned (v0_) ∧ Kd.R (Kd.int .u8) 5 w' W.heap.size (fun _ => True) v0_ (l0.take n) ∧ Below W.heap.size W w')) := ⟨fun W hW => by
        have := slices_Clone_byte_byte.calls A0 c0 (l0.take n) (l0.take n) W (Kd.C_below HRA.out hW) (by omega) hcl
        rw [hlt] at this
        exact this⟩
      obtain ⟨ad, hA8e, hcells⟩ := HRB.out.2.2 (by rw [hlen]; omega)
      obtain ⟨x0, x1, x2, x3, hd4⟩ : ∃ x0 x1 x2 x3, l0.drop n = [x0, x1, x2, x3] := by
        match hm : l0.drop n, hlen with
        | [a, b, c, d], _ => exact ⟨a, b, c, d, rfl⟩
      rw [hlen, hd4] at hcells
      subst hA8e
      have h0 := Aside0.mk (hcells 0 (by omega))
      have h1 := Aside0.mk (hcells 1 (by omega))
      have h2 := Aside0.mk (hcells 2 (by omega))
      have h3 := Aside0.mk (hcells 3 (by omega))
      simp only [List.getD_cons_zero, List.getD_cons_succ] at h0 h1 h2 h3
      have HH4 := HH.out
      rw [hd4, ← hs] at HH4
      have HT := Aside0.mk HH4
      have hS := Lib.hid hs
      obtain ⟨q, hq0⟩ : ∃ q, (!((s % 256 == x0) && ((s / 256 % 256 == x1) && ((s / 65536 % 256 == x2) && ((s / 16777216 == x3) && true))))) = q := ⟨_, rfl⟩
      have hq := Aside0.mk hq0
      clear hq0
      have hlt' := Aside0.mk hlt
      clear HH4 hcells hd4 hs hsum hcl HRB HH hlen hlt HB
      go_enter Tryd.func29, Tryd.ntmps29
      go_wp2_with fail
      go_quiet (fail)
      go_wp2_with fail
      have HBq := Aside0.mk (pw_below_drewN (Below.refl w.heap.size w) nq)
      obtain ⟨wq, hwq⟩ : ∃ wq, wq = w.drewN nq := ⟨_, rfl⟩
      rw [← hwq] at HBq ⊢
      clear hwq
      replace h0 := Aside0.mk (pw_cell_below HBq.out h0.out)
      replace h1 := Aside0.mk (pw_cell_below HBq.out h1.out)
      replace h2 := Aside0.mk (pw_cell_below HBq.out h2.out)
      replace h3 := Aside0.mk (pw_cell_below HBq.out h3.out)
      refine start_ (n := 7) (S := fun w' => w'.cell? (ad.add 0) = some (.int .u8 x0) ∧ w'.cell? (ad.add 1) = some (.int .u8 x1) ∧ w'.cell? (ad.add 2) = some (.int .u8 x2) ∧ w'.cell? (ad.add 3) = some (.int .u8 x3)) (ds := []) #[false, false, false, false, false, false, false] (by kernel_rfl) rfl rfl ⟨h0.out, h1.out, h2.out, h3.out⟩ (fun hHeld => ?_)
      refine pure_ (i := 0) (N := some 18) (v := ?_) (a' := ?_) #[true, false, false, false, false, false, false] rfl rfl (by kernel_rfl) (fun _ _ _ h => h) (Or.inl ⟨by rfl, ?_⟩) ?_ ?_
      rotate_left
      · intro w'
        go_simp
        with_reducible rfl
      rotate_left
      · simp only [Act.put, List.setIfInBounds_toArray, List.set_cons_zero, List.set_cons_succ, i64_w, i32_w]
        rfl
      refine pure_ (i := 3) (N := some 21) (v := ?_) (a' := ?_) #[true, false, false, true, false, false, false] rfl rfl (by kernel_rfl) (fun _ _ _ h => h) (Or.inl ⟨by rfl, ?_⟩) ?_ ?_
      rotate_left
      · intro w'
        go_simp
        with_reducible rfl
      rotate_left
      · simp only [Act.put, List.setIfInBounds_toArray, List.set_cons_zero, List.set_cons_succ, i64_w, i32_w]
        rfl
      refine pure_ (i := 4) (N := some 22) (v := ?_) (a' := ?_) #[true, false, false, true, true, false, false] rfl rfl (by kernel_rfl) (fun _ _ _ h => h) (Or.inl ⟨by rfl, ?_⟩) ?_ ?_
      rotate_left
      · intro w'
        go_simp
        rw [run_arrayAt _ 38 5 4 _ 4 (c0 - n) Tryd.underlying38 (by omega)]
        exact rfl
      rotate_left
      · simp only [Act.put, List.setIfInBounds_toArray, List.set_cons_zero, List.set_cons_succ, i64_w, i32_w]
        rfl
      refine take_ (i := 5) (N := some 23) (v := ?_) (a' := ?_) #[true, false, false, true, true, true, false] rfl rfl (by kernel_rfl) (fun _ _ _ h => h) (Or.inl ⟨by rfl, ?_⟩) hHeld ?_ ?_
      rotate_left
      · rintro w' ⟨s0, s1, s2, s3⟩
        exact load4_op s0 s1 s2 s3
      rotate_left
      · simp only [Act.put, List.setIfInBounds_toArray, List.set_cons_zero, List.set_cons_succ, i64_w, i32_w]
        rfl
      refine one_ (i := 1) (N := some 19) #[true, true, false, true, true, true, false] rfl rfl (by kernel_rfl) (by decide) (fun K hK => ?_)
      refine goes_ Tryd.func23 (by kernel_rfl) rfl #[.slice A0 n c0] (by rfl) rfl rfl (by simp only [List.map_toArray, List.map_cons, List.map_nil]; rfl) ?_
      with_reducible refine (HSum.out _ (below_drew1 HBq.out)).mono ?_
      rintro e w3 ⟨rfl, hd⟩
      refine ⟨_, rfl, ?_⟩
      have HB3 := Aside0.mk (below_step (below_drew1 HBq.out) hd.below)
      refine hK.out _ _ ⟨pw_cell_below hd.below hHeld.1, pw_cell_below hd.below hHeld.2.1, pw_cell_below hd.below hHeld.2.2.1, pw_cell_below hd.below hHeld.2.2.2⟩ (fun hHeld => ?_)
      clear hK K
      refine norm_ (a' := ?_) ?_ ?_
      rotate_left
      · show Act.put _ (some 19) _ = _
        simp only [Act.put, List.setIfInBounds_toArray, List.set_cons_zero, List.set_cons_succ, i64_w, i32_w]
        rfl
      refine one_ (i := 2) (N := some 20) #[true, true, true, true, true, true, false] rfl rfl (by kernel_rfl) (by decide) (fun K hK => ?_)
      refine goes_ Tryd.func88 (by kernel_rfl) rfl #[.int .u32 s] (by rfl) rfl rfl (by simp only [List.map_toArray, List.map_cons, List.map_nil]; rfl) ?_
      with_reducible refine (crc_bytesOf.calls s hs0 hs1 _).mono ?_
      rintro e w4 ⟨rfl, hb4⟩
      refine ⟨_, rfl, ?_⟩
      have HB4 := Aside0.mk (below_step HB3.out hb4)
      refine hK.out _ _ ⟨pw_cell_below hb4 hHeld.1, pw_cell_below hb4 hHeld.2.1, pw_cell_below hb4 hHeld.2.2.1, pw_cell_below hb4 hHeld.2.2.2⟩ (fun hHeld => ?_)
      clear hK K
      refine norm_ (a' := ?_) ?_ ?_
      rotate_left
      · show Act.put _ (some 20) _ = _
        simp only [Act.put, List.setIfInBounds_toArray, List.set_cons_zero, List.set_cons_succ, i64_w, i32_w]
        rfl
      refine pure_ (i := 6) (N := some 24) (v := ?_) (a' := ?_) #[true, true, true, true, true, true, true] rfl rfl (by kernel_rfl) (fun _ _ _ h => h) (Or.inl ⟨by rfl, ?_⟩) ?_ ?_
      rotate_left
      · intro w'
        exact eq4_op _ _ _ _ _ _ _ _ w' q hq.out
      rotate_left
      · simp only [Act.put, List.setIfInBounds_toArray, List.set_cons_zero, List.set_cons_succ, i64_w, i32_w]
        rfl
      refine done_ (by kernel_rfl) ?_
      have hT := HT.out
      have hq1 := hq.out
      cases q with
      | true =>
        rw [if_neg (by simp only [sumBytes, List.cons.injEq]; rintro ⟨rfl, rfl, rfl, rfl, _⟩; simp at hq1)] at hT
        simp only [Prod.mk.injEq] at hT
        obtain ⟨rfl, rfl⟩ := hT
        clear hq1
        go_wp2
        go_ret2
        exact ⟨_, rfl, Kd.R_nil _ _ _ _ _, HB4.out⟩
      | false =>
        rw [if_pos (by simp at hq1; obtain ⟨q0, q1, q2, q3⟩ := hq1; subst q0 q1 q2 q3; rfl)] at hT
        simp only [Prod.mk.injEq] at hT
        obtain ⟨rfl, rfl⟩ := hT
        clear hq1
        go_wp2_with fail
        refine (HClone.out _ HB4.out).mono ?_
        rintro e w5 ⟨v0, rfl, hR5, hb5⟩
        go_wp2
        go_ret2
        exact ⟨_, rfl, Kd.R_lower hR5 HB4.out.size, below_step HB4.out hb5⟩
  · cases h
end Go.Proofs.YtjlmliagkfjcgaaDoor.Hand
