import Derived.Test.YtjlmliagkfjcgaaDoorHCrcL
namespace Go.Proofs.YtjlmliagkfjcgaaDoor.Hand
open Go.RowKit Go.Proofs.YtjlmliagkfjcgaaDoorW.PrintWords Go.Proofs.YtjlmliagkfjcgaaDoorW.PrintLast Go.Proofs.YtjlmliagkfjcgaaDoorW.PrintMore
set_option linter.unusedVariables false
set_option linter.unusedSimpArgs false

/-- What stands behind the first i of four bytes turned, and whether one was. -/
def fourRun (l : List Int) (k : Int) (bs : List Int) : Nat → List Int × Bool
  | 0 => (l, false)
  | i + 1 => if k + i < (fourRun l k bs i).1.length ∧ bs.getD i 0 ≠ 0 then ((fourRun l k bs i).1.set (k + i).toNat (Go.bits .xor .u8 ((fourRun l k bs i).1.getD (k + i).toNat 0) (bs.getD i 0)), true) else fourRun l k bs i
theorem fourRun_length (l : List Int) (k : Int) (bs : List Int) (i : Nat) : (fourRun l k bs i).1.length = l.length := by
  induction i with
  | zero => rfl
  | succ i ih =>
    unfold fourRun
    split
    · rw [List.length_set]; exact ih
    · exact ih
set_option maxHeartbeats 8000000 in
set_option maxRecDepth 100000 in
theorem CrcFour_walk (A0 : Option Addr) (c0 : Nat) (l0 : List Int) (k b0 b1 b2 b3 : Int) (s t : Int) (w : World) (hr0 : Kd.C (Kd.int .u8) w A0 l0.length l0) (hc0 : l0.length ≤ c0) (hG : CrcTab w)
    (hl : l0.length < 140737488355328) (hk0 : 0 ≤ k) (hk1 : k < 65536) (hs : crc_Sum.f (fourRun l0 k [b0, b1, b2, b3] 4).1 = some s) (ht : crc_Sum.f l0 = some t) :
    Calls Tryd.prog 6 #[.slice A0 l0.length c0, .int .u16 k, .agg #[.int .u8 b0, .int .u8 b1, .int .u8 b2, .int .u8 b3]] w fun e w' =>
      e = .returned (.bool ((s != t) == (fourRun l0 k [b0, b1, b2, b3] 4).2)) ∧ Below w.heap.size w w' := by
  obtain ⟨bs, hbs⟩ : ∃ bs, bs = [b0, b1, b2, b3] := ⟨_, rfl⟩
  have HR := Aside0.mk hr0
  have HC := Aside0.mk hc0
  have HGG := Aside0.mk hG
  have HS := Aside0.mk hs
  have HT := Aside0.mk ht
  clear hr0 hc0 hG hs ht
  obtain ⟨w1, hw1⟩ : ∃ w1, w1 = w.alloc (.cells #[.int .u8 b0, .int .u8 b1, .int .u8 b2, .int .u8 b3] 38) := ⟨_, rfl⟩
  have HB1 : Aside0 (Below w.heap.size w w1) := ⟨by rw [hw1]; exact below_alloc (Below.refl _ _) _⟩
  have hcell : ∀ i : Nat, i < 4 → w1.cell? ⟨w.heap.size, i, none⟩ = some (.int .u8 (bs.getD i 0)) := fun i hi => by
    rw [hw1, World.cell?_alloc_mark, hbs]
    match i, hi with
    | 0, _ => rfl
    | 1, _ => rfl
    | 2, _ => rfl
    | 3, _ => rfl
  have HCELL := Aside0.mk hcell
  have HW1 := Lib.hid hw1
  have hsz : w1.heap.size = w.heap.size + 1 := by rw [hw1]; exact Array.size_push _
  have HSZ := Aside0.mk hsz
  rw [← hbs] at HS ⊢
  have HL := Aside0.mk hl
  clear hcell hw1 hsz hbs hl
  go_enter Tryd.func6, Tryd.ntmps6
  go_wp2_with (first | ((with_reducible refine gate_builtin (b := .append) (xs := #[.tmp 11, .tmp 12]) rfl ?_); at_builtin; rw [← HW1.out]; refine Kd.R_append_rows (Kd.int .u8) (w0 := w1) w1.heap.size rfl (.tmp 11) (.tmp 12) 23 5 (.int .u8 0) 1 rfl Tryd.underlying23 leb_info rfl (by decide) (by omega) (.slice none 0 0) ([] : List Int) l0 _ _ _ (fun _ => True) (fun _ => False) rfl rfl (Kd.R_nil _ _ _ _ (fun _ => True)) (Kd.C_below HR.out HB1.out) (fun _ _ h => h) (fun _ h => h.elim) (fun _ _ => trivial) (Below.refl _ _) (Nat.le_refl _) (by have := HL.out; rw [List.length_nil]; omega) ?_; intro v7 w2 ho hb hg hat; rw [List.nil_append] at ho; have HO := Aside0.mk ho; have HB2 := Aside0.mk hb; clear ho hb hg hat))
  go_loopg [8, 9] 4 (fun kq v8 v9 wr => ∃ i : Nat, v9 = .int .i64 (i : Int) ∧ kq + i = 4 ∧ v8 = .bool (fourRun l0 k bs i).2 ∧ Aside0 (Kd.R (Kd.int .u8) 5 wr w1.heap.size (fun _ => True) v7 (fourRun l0 k bs i).1) ∧ Aside0 (Below w1.heap.size w1 wr))
  case atStart => exact ⟨0, rfl, rfl, rfl, HO, HB2⟩
  case round =>
    clear HO HB2
    obtain ⟨i, rfl, hk, rfl, HO, HB2⟩ := hrel
    cases gk with
    | zero =>
      obtain rfl : i = 4 := by omega
      have hle := Nat.le_refl w1.heap.size
      obtain ⟨A7, c7, e7⟩ := Kd.R_slice HO.out
      subst e7
      have HB0 := Aside0.mk (below_then HB1.out (by have := HB1.out.size; omega) HB2.out)
      clear hle
      go_wp2_with fail
      refine (secateurlaw02_live.calls true _ (HGG.out.below HB0.out) rfl).mono ?_
      rintro e w3 ⟨rfl, hb3⟩
      have HO3 := Aside0.mk (Kd.R_below HO.out hb3)
      have HB3 := Aside0.mk (below_step HB0.out hb3)
      clear hb3 HO HB0
      go_wp2_with fail
      refine (crc_Sum.calls A7 c7 _ s _ (Kd.R_reads' HO3.out).2.2 (Kd.R_reads' HO3.out).2.1 (HGG.out.below HB3.out) HS.out).mono ?_
      rintro e w4 ⟨rfl, hd⟩
      have HB4 := Aside0.mk (below_step HB3.out hd.below)
      clear hd HO3 HB3
      go_wp2_with fail
      refine (crc_Sum.calls A0 c0 l0 t _ (Kd.C_below HR.out HB4.out) HC.out (HGG.out.below HB4.out) HT.out).mono ?_
      rintro e w5 ⟨rfl, hd⟩
      have HB5 := Aside0.mk (below_step HB4.out hd.below)
      clear hd HB4
      go_wp2
      go_ret
      exact ⟨rfl, HB5.out⟩
    | succ k1 =>
      have hi : i < 4 := by omega
      obtain ⟨⟨xs, tt⟩, hxt⟩ : ∃ p, p = fourRun l0 k bs i := ⟨_, rfl⟩
      obtain ⟨bi, hbi⟩ : ∃ x, x = bs.getD i 0 := ⟨_, rfl⟩
      have hbyte := pw_cell_below HB2.out (HCELL.out i hi)
      rw [← hbi] at hbyte
      have hnext : fourRun l0 k bs (i + 1) = if k + i < xs.length ∧ bi ≠ 0 then (xs.set (k + i).toNat (Go.bits .xor .u8 (xs.getD (k + i).toNat 0) bi), true) else (xs, tt) := by
        rw [fourRun, ← hxt, hbi]
      clear hbi
      rw [← hxt] at HO
      rw [← hxt]
      have HN := Lib.hid hnext
      have he1 : wrap64 (k + (i : Int)) = k + i := w64 (by omega) (by omega)
      have he2 : wrap64 ((i : Int) + 1) = ((i + 1 : Nat) : Int) := by rw [w64 (by omega) (by omega)]; push_cast; rfl
      have hi0 : (0 ≤ (i : Int)) = True := eq_true (by omega)
      have hi4 : ((i : Int) < 4) = True := eq_true (by omega)
      have hk0' : (0 ≤ k) = True := eq_true hk0
      obtain ⟨A7, c7, e7⟩ := Kd.R_slice HO.out
      subst e7
      clear hnext hxt
      by_cases hc : k + i < xs.length
      · have hc1 : decide (k + i < (xs.length : Int)) = true := decide_eq_true hc
        by_cases hz : bi = 0
        · have hz1 : (bi == 0) = true := beq_iff_eq.mpr hz
          have hz2 : (bi != 0) = false := bne_eq_false_iff_eq.mpr hz
          have hn := HN.out
          rw [if_neg (by rintro ⟨_, h⟩; exact h hz)] at hn
          have HN2 := Lib.hid hn
          clear hz hc hn HN
          go_wp2
          go_roundg k1
          case measure => omega
          case rel => exact ⟨i + 1, rfl, by omega, by rw [HN2.out], by rw [HN2.out]; exact HO, HB2⟩
        · have hz1 : (bi == 0) = false := beq_eq_false_iff_ne.mpr hz
          have hz2 : (bi != 0) = true := bne_iff_ne.mpr hz
          have hn := HN.out
          rw [if_pos ⟨hc, hz⟩] at hn
          have HN2 := Lib.hid hn
          have hp : 0 < xs.length := by omega
          obtain ⟨g, cap, e7, hgb, hgl, _⟩ := Kd.R_form HO.out hp
          simp only [Value.slice.injEq, true_and] at e7
          obtain ⟨rfl, rfl⟩ := e7
          have hkp0 : 0 ≤ k + (i : Int) := Int.add_nonneg hk0 (Int.natCast_nonneg i)
          obtain ⟨hcj, hfj⟩ := Kd.R_celln (0 : Int) HO.out (k + (i : Int)) hkp0 hc
          obtain ⟨xj, hxj⟩ : ∃ x, x = xs.getD (k + (i : Int)).toNat 0 := ⟨_, rfl⟩
          have hcj : wr.cell? ⟨g, (k + (i : Int)).toNat, none⟩ = some (.int .u8 xj) := by rw [hxj]; exact hcj
          rw [← hxj] at HN2
          have hgb' := Aside0.mk hgb
          have hgl' := Aside0.mk hgl
          have hkp : (0 ≤ k + (i : Int)) = True := eq_true hkp0
          have hkl : (k + (i : Int) < (xs.length : Int)) = True := eq_true hc
          clear hz hc hn HN hxj hgb hgl
          go_wp2_with fail
          refine start_ (n := 10) (S := fun w' => w'.cell? ⟨g, (k + (i : Int)).toNat, none⟩ = some (.int .u8 xj) ∧ w'.frozen? ⟨g, (k + (i : Int)).toNat, none⟩ = false ∧ w'.cell? ⟨w.heap.size, i, none⟩ = some (.int .u8 bi)) (ds := [9]) #[false, false, false, false, false, false, false, false, false, false] (by kernel_rfl) rfl rfl ⟨hcj, hfj, hbyte⟩ (fun hHeld => ?_)
          refine pure_ (i := 0) (N := some 32) (v := ?_) (a' := ?_) #[true, false, false, false, false, false, false, false, false, false] rfl rfl (by kernel_rfl) (fun _ _ _ h => h) (Or.inl ⟨by rfl, ?_⟩) ?_ ?_
          rotate_left
          · intro w'
            go_simp
            with_reducible rfl
          rotate_left
          · simp only [Act.put, List.setIfInBounds_toArray, List.set_cons_zero, List.set_cons_succ, i64_w, i32_w]
            rfl
          refine pure_ (i := 1) (N := some 33) (v := ?_) (a' := ?_) #[true, true, false, false, false, false, false, false, false, false] rfl rfl (by kernel_rfl) (fun _ _ _ h => h) (Or.inl ⟨by rfl, ?_⟩) ?_ ?_
          rotate_left
          · intro w'
            go_simp
            with_reducible rfl
          rotate_left
          · simp only [Act.put, List.setIfInBounds_toArray, List.set_cons_zero, List.set_cons_succ, i64_w, i32_w]
            rfl
          refine pure_ (i := 2) (N := some 34) (v := ?_) (a' := ?_) #[true, true, true, false, false, false, false, false, false, false] rfl rfl (by kernel_rfl) (fun _ _ _ h => h) (Or.inl ⟨by rfl, ?_⟩) ?_ ?_
          rotate_left
          · intro w'
            go_simp
            with_reducible rfl
          rotate_left
          · simp only [Act.put, List.setIfInBounds_toArray, List.set_cons_zero, List.set_cons_succ, i64_w, i32_w]
            rfl
          refine pure_ (i := 4) (N := some 36) (v := ?_) (a' := ?_) #[true, true, true, false, true, false, false, false, false, false] rfl rfl (by kernel_rfl) (fun _ _ _ h => h) (Or.inl ⟨by rfl, ?_⟩) ?_ ?_
          rotate_left
          · intro w'
            go_simp
            with_reducible rfl
          rotate_left
          · simp only [Act.put, List.setIfInBounds_toArray, List.set_cons_zero, List.set_cons_succ, i64_w, i32_w]
            rfl
          refine pure_ (i := 5) (N := some 37) (v := ?_) (a' := ?_) #[true, true, true, false, true, true, false, false, false, false] rfl rfl (by kernel_rfl) (fun _ _ _ h => h) (Or.inl ⟨by rfl, ?_⟩) ?_ ?_
          rotate_left
          · intro w'
            go_simp
            with_reducible rfl
          rotate_left
          · simp only [Act.put, List.setIfInBounds_toArray, List.set_cons_zero, List.set_cons_succ, i64_w, i32_w]
            rfl
          refine take_ (i := 3) (N := some 35) (v := ?_) (a' := ?_) #[true, true, true, true, true, true, false, false, false, false] rfl rfl (by kernel_rfl) (fun _ _ _ h => h) (Or.inl ⟨by rfl, ?_⟩) hHeld ?_ ?_
          rotate_left
          · rintro w' ⟨s0, s1, s2⟩
            go_simp
            with_reducible rfl
          rotate_left
          · simp only [Act.put, List.setIfInBounds_toArray, List.set_cons_zero, List.set_cons_succ, i64_w, i32_w]
            rfl
          refine take_ (i := 6) (N := some 38) (v := ?_) (a' := ?_) #[true, true, true, true, true, true, true, false, false, false] rfl rfl (by kernel_rfl) (fun _ _ _ h => h) (Or.inl ⟨by rfl, ?_⟩) hHeld ?_ ?_
          rotate_left
          · rintro w' ⟨s0, s1, s2⟩
            go_simp
            with_reducible rfl
          rotate_left
          · simp only [Act.put, List.setIfInBounds_toArray, List.set_cons_zero, List.set_cons_succ, i64_w, i32_w]
            rfl
          refine pure_ (i := 7) (N := some 39) (v := ?_) (a' := ?_) #[true, true, true, true, true, true, true, true, false, false] rfl rfl (by kernel_rfl) (fun _ _ _ h => h) (Or.inl ⟨by rfl, ?_⟩) ?_ ?_
          rotate_left
          · intro w'
            go_simp
            with_reducible rfl
          rotate_left
          · simp only [Act.put, List.setIfInBounds_toArray, List.set_cons_zero, List.set_cons_succ, i64_w, i32_w]
            rfl
          refine pure_ (i := 8) (N := some 40) (v := ?_) (a' := ?_) #[true, true, true, true, true, true, true, true, true, false] rfl rfl (by kernel_rfl) (fun _ _ _ h => h) (Or.inl ⟨by rfl, ?_⟩) ?_ ?_
          rotate_left
          · intro w'
            go_simp
            with_reducible rfl
          rotate_left
          · simp only [Act.put, List.setIfInBounds_toArray, List.set_cons_zero, List.set_cons_succ, i64_w, i32_w]
            rfl
          refine last_ (i := 9) (N := none) #[true, true, true, true, true, true, true, true, true, true] rfl rfl (by kernel_rfl) (by decide) (fun K hK => ?_)
          refine skip_ (w1 := ?_) (by rfl) rfl ?_ ?_
          rotate_left
          · go_simp
            rfl
          refine hK.out _ _ ?_
          clear hK K
          refine done_ (by kernel_rfl) ?_


          have HO2 : Aside0 (Kd.R (Kd.int .u8) 5 (wr.setCell ⟨g, (k + (i : Int)).toNat, none⟩ (.int .u8 (Go.bits .xor .u8 xj bi))).drew w1.heap.size (fun _ => True) (.slice (some ⟨g, 0, none⟩) xs.length c7) (xs.set (k + (i : Int)).toNat (Go.bits .xor .u8 xj bi))) := ⟨Kd.R_drew (Kd.R_putn HO.out (k + (i : Int)) (Go.bits .xor .u8 xj bi))⟩
          have HB3 := Aside0.mk (below_drew1 (Below.setCell HB2.out (p := ⟨g, (k + (i : Int)).toNat, none⟩) hgb'.out (.int .u8 (Go.bits .xor .u8 xj bi))))
          clear HO HB2 hcj hfj hbyte
          go_wp2
          go_roundg k1
          case measure => omega
          case rel => exact ⟨i + 1, rfl, by omega, by rw [HN2.out], ⟨by rw [HN2.out]; simpa using HO2.out⟩, ⟨by simpa using HB3.out⟩⟩
      · have hc1 : decide (k + i < (xs.length : Int)) = false := decide_eq_false hc
        have hn := HN.out
        rw [if_neg (by rintro ⟨h, _⟩; exact hc h)] at hn
        have HN2 := Lib.hid hn
        clear hc hn HN
        go_wp2
        go_roundg k1
        case measure => omega
        case rel => exact ⟨i + 1, rfl, by omega, by rw [HN2.out], by rw [HN2.out]; exact HO, HB2⟩
end Go.Proofs.YtjlmliagkfjcgaaDoor.Hand
