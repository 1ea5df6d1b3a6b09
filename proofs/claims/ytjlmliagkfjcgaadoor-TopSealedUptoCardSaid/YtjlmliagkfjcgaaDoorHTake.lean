import Derived.Test.YtjlmliagkfjcgaaDoorHPut
namespace Go.Proofs.YtjlmliagkfjcgaaDoor.Hand
open Go.RowKit Go.Proofs.YtjlmliagkfjcgaaDoorW.PrintWords Go.Proofs.YtjlmliagkfjcgaaDoorW.PrintLast Go.Proofs.YtjlmliagkfjcgaaDoorW.PrintMore
set_option linter.unusedVariables false
set_option linter.unusedSimpArgs false

def byteB (x : Int) : Bool := decide (0 ≤ x) && decide (x < 256)
theorem byteB_iff {x : Int} : byteB x = true ↔ 0 ≤ x ∧ x < 256 := by simp [byteB]
/-- What stands behind a place: the number, the place behind it, and the error. -/
def takeGo (a1 : Int) : List Int → Nat → Int → Int × Int × Int
  | [], _, _ => (0, 0, 2)
  | x :: xs, i, n => if i = 9 ∧ 1 < x then (0, 0, 1) else if x = 0 ∧ 0 < i then (0, 0, 1) else if x < 128 then (n + x * 128 ^ i, a1 + i + 1, 0) else takeGo a1 xs (i + 1) (n + (x - 128) * 128 ^ i)
def lebTake (l : List Int) (a : Int) : Int × Int × Int := if a < 0 ∨ (l.length : Int) < a then (0, 0, 12) else takeGo a (l.drop a.toNat) 0 0
def leb_Take.f (l0 : List Int) (a1 : Int) : Option (Int × Int × Int) := if l0.all byteB = true ∧ l0.length ≤ 281474976710656 then some (lebTake l0 a1) else none

theorem getD_of_drop {l : List Int} {i : Nat} {x : Int} {xs : List Int} (h : l.drop i = x :: xs) : l.getD i 0 = x ∧ i < l.length ∧ l.drop (i + 1) = xs := by
  have hl : i < l.length := by
    rcases Nat.lt_or_ge i l.length with h1 | h1
    · exact h1
    · rw [List.drop_of_length_le h1] at h; cases h
  rw [List.drop_eq_getElem_cons hl] at h
  injection h with h1 h2
  exact ⟨by simp [List.getD, List.getElem?_eq_getElem hl, h1], hl, h2⟩

theorem u8_and128 {x : Int} (h0 : 0 ≤ x) (h1 : x < 256) : Go.bits .and .u8 x 128 = if x < 128 then 0 else 128 := by
  have h : ∀ x : Fin 256, Go.bits .and .u8 (x.val : Int) 128 = if (x.val : Int) < 128 then 0 else 128 := by decide +kernel
  obtain ⟨a, rfl⟩ := Int.eq_ofNat_of_zero_le h0
  exact h ⟨a, by omega⟩
theorem u8_andNot {x : Int} (h0 : 0 ≤ x) (h1 : x < 256) : Go.bits .andNot .u8 x 128 = x % 128 := by
  have h : ∀ x : Fin 256, Go.bits .andNot .u8 (x.val : Int) 128 = (x.val : Int) % 128 := by decide +kernel
  obtain ⟨a, rfl⟩ := Int.eq_ofNat_of_zero_le h0
  exact h ⟨a, by omega⟩
theorem u64_or_add (n y : Int) (i : Nat) (hn0 : 0 ≤ n) (hn1 : n < 2 ^ i) (hi : i ≤ 63) (hy0 : 0 ≤ y) (hy1 : y * 2 ^ i < 2 ^ 64) : Go.bits .or .u64 n (y * 2 ^ i) = n + y * 2 ^ i := by
  obtain ⟨a, rfl⟩ := Int.eq_ofNat_of_zero_le hn0
  obtain ⟨b, rfl⟩ := Int.eq_ofNat_of_zero_le hy0
  have ha : a < 2 ^ i := by exact_mod_cast hn1
  have hb : b * 2 ^ i < 2 ^ 64 := by exact_mod_cast hy1
  have ha64 : a < 2 ^ 64 := Nat.lt_of_lt_of_le ha (Nat.pow_le_pow_right (by decide) (by omega))
  have e : ((b : Int) * 2 ^ i) = ((b * 2 ^ i : Nat) : Int) := by push_cast; rfl
  have w : ∀ n : Int, 0 ≤ n → n < 2 ^ 64 → IntKind.u64.wrap n = n := fun n h0 h1 => by
    simp [IntKind.wrap, IntKind.bits, IntKind.signed]; omega
  rw [e, (Go.bits_nat .u64 64 (by decide) w a _ ha64 hb).2]
  have h2 : a ||| b * 2 ^ i = a + b * 2 ^ i := by
    rw [Nat.or_comm, Nat.mul_comm, ← Nat.two_pow_add_eq_or_of_lt ha b]; omega
  rw [h2]; push_cast; rfl
theorem take_val (n x : Int) (i : Nat) (hn0 : 0 ≤ n) (hn1 : n < 128 ^ i) (hx0 : 0 ≤ x) (hx1 : x < 256) (hi : i ≤ 9) (h9 : i = 9 → x ≤ 1) :
    Go.bits .or .u64 n (IntKind.u64.wrap (IntKind.u64.wrap (Go.bits .andNot .u8 x 128) * 2 ^ (7 * i))) = n + x % 128 * 128 ^ i := by
  have e : (128 : Int) ^ i = 2 ^ (7 * i) := by rw [Int.pow_mul]; rfl
  have w : ∀ n : Int, 0 ≤ n → n < 18446744073709551616 → IntKind.u64.wrap n = n := fun n h0 h1 => by
    simp [IntKind.wrap, IntKind.bits, IntKind.signed]; omega
  have hp : x % 128 * 2 ^ (7 * i) < 18446744073709551616 := by
    have hc : i = 9 ∨ i ≤ 8 := by omega
    rcases hc with rfl | hc
    · have := h9 rfl
      have h1 : x % 128 ≤ 1 := by omega
      have : x % 128 * 2 ^ (7 * 9) ≤ 1 * 2 ^ (7 * 9) := Int.mul_le_mul_of_nonneg_right h1 (by decide)
      have e2 : (1 : Int) * 2 ^ (7 * 9) = 9223372036854775808 := by decide
      omega
    · have h1 : x % 128 ≤ 127 := by omega
      have h2 : (2 : Int) ^ (7 * i) ≤ 2 ^ 56 := by
        have := Nat.pow_le_pow_right (n := 2) (by decide) (show 7 * i ≤ 56 by omega)
        exact_mod_cast this
      have h3 : x % 128 * 2 ^ (7 * i) ≤ 127 * 2 ^ 56 := Int.mul_le_mul h1 h2 (Int.pow_nonneg (by decide)) (by decide)
      have e2 : (127 : Int) * 2 ^ 56 = 9151314442816847872 := by decide
      omega
  have h0 : 0 ≤ x % 128 := by omega
  rw [u8_andNot hx0 hx1, w (x % 128) h0 (by omega), w _ (Int.mul_nonneg h0 (Int.pow_nonneg (by decide))) hp, e]
  exact u64_or_add n (x % 128) (7 * i) hn0 (by rw [← e]; exact hn1) (by omega) h0 (by have : (2 : Int) ^ 64 = 18446744073709551616 := by decide
                                                                                      omega)
theorem take_step (n x : Int) (i : Nat) (hn0 : 0 ≤ n) (hn1 : n < 128 ^ i) (hx0 : 128 ≤ x) (hx1 : x < 256) : 0 ≤ n + (x - 128) * 128 ^ i ∧ n + (x - 128) * 128 ^ i < 128 ^ (i + 1) := by
  have hp : (0 : Int) ≤ 128 ^ i := Int.pow_nonneg (by decide)
  have h1 : (x - 128) * 128 ^ i ≤ 127 * 128 ^ i := Int.mul_le_mul_of_nonneg_right (by omega) hp
  have h2 : 0 ≤ (x - 128) * 128 ^ i := Int.mul_nonneg (by omega) hp
  rw [Int.pow_succ]
  omega

def takeRel (m : Nat) (l0 : List Int) (r : Int × Int × Int) (n8 : Nat) (v7 v22 : Value) : Prop :=
  ∃ (i : Nat) (n : Int) (xs : List Int), v22 = .int .i64 i ∧ v7 = .int .u64 n ∧ i ≤ n8 ∧ Aside0 (i ≤ 9) ∧ Aside0 (takeGo m xs i n = r) ∧ Aside0 (xs = (l0.drop m).drop i) ∧ Aside0 (0 ≤ n ∧ n < 128 ^ i)

set_option maxHeartbeats 8000000 in
set_option maxRecDepth 100000 in
theorem take_loop (A0 : Option Addr) (c0 : Nat) (l0 : List Int) (m : Nat) (r : Int × Int × Int) (w : World) (hr0 : Kd.C (Kd.int .u8) w A0 l0.length l0) (hc0 : l0.length ≤ c0) (hm : m ≤ l0.length) (hb : l0.all byteB = true) (hlen : l0.length ≤ 281474976710656) (hr : r = takeGo m (l0.drop m) 0 0) :
    Calls Tryd.prog 133 #[.slice A0 l0.length c0, .int .i64 m] w fun e w' => e = .returned (.tuple #[.int .u64 r.1, .int .i64 r.2.1, .int .i64 r.2.2]) ∧ Drawn0 w w' := by
  obtain ⟨i0, hi0, hz0, hz1, hz2⟩ := info_parts leb_info
  obtain ⟨A8, hcut, hA8, hC8⟩ := print_drop_of (P := Tryd.prog) (Value.int .u8) 0 23 5 .i64 Tryd.underlying23 hi0 hz1 A0 c0 l0 m (by omega) (by omega) hc0
  have HR := Lib.hid (hA8 _ (Kd.reads_of_C hr0))
  have HRR := Lib.hid hr
  have hb2 := Lib.hid hb
  clear hr0 hr hi0 hz0 hz1 hz2 hA8 hC8 hb
  obtain ⟨n8, hn8⟩ : ∃ n8, n8 = (l0.drop (m : Int).toNat).length := ⟨_, rfl⟩
  have hle : n8 ≤ 281474976710656 := by rw [hn8, List.length_drop]; omega
  rw [← hn8] at HR
  simp only [← hn8] at hcut
  have hgt : decide ((m : Int) > (l0.length : Int)) = false := decide_eq_false (by omega)
  have HN8 := Lib.hid hn8
  clear hn8
  go_enter Tryd.func133, Tryd.ntmps133
  go_wp2
  go_loop [7, 22] (fun v7 v22 => takeRel m l0 r n8 v7 v22) (fun _ v22 => n8 - (intOf v22).toNat)
  case atStart => exact ⟨0, 0, _, rfl, rfl, by omega, ⟨by omega⟩, ⟨HRR.out.symm⟩, ⟨by simp⟩, ⟨by omega, by simp⟩⟩
  case round =>
    obtain ⟨i, n, xs, rfl, rfl, hin, hi9, HT, HX, HB⟩ := hrel
    by_cases hlt : i < n8
    · obtain ⟨x, xs, rfl⟩ : ∃ x ys, xs = x :: ys := by
        cases xs with
        | nil => have := congrArg List.length HX.out; have h2 := HN8.out; simp at this h2; omega
        | cons x ys => exact ⟨x, ys, rfl⟩
      obtain ⟨hx, hil, hrest⟩ := getD_of_drop (HX.out.symm)
      have hxb := byteB_iff.1 (List.all_eq_true.1 hb2.out x (List.mem_of_mem_drop (i := m) (List.mem_of_mem_drop (i := i) (by rw [← HX.out]; exact List.mem_cons_self ..))))
      obtain ⟨ad, had, hcell⟩ := ReadsOf.at_ HR.out (i : Int) (by omega) (by omega)
      cases had
      have hrd : rdOf (0 : Int) (l0.drop (m : Int).toNat) (i : Int) = x := by rw [← hx]; rfl
      rw [hrd, Int.toNat_natCast] at hcell
      have HH := HT.out
      simp only [takeGo] at HH
      have HX2 := Lib.hid hrest
      have HB2 := Lib.hid HB.out
      clear hx hil hrest hrd
      obtain ⟨hx0, hx1⟩ := hxb
      by_cases hA : i = 9 ∧ 1 < x
      · rw [if_pos hA] at HH
        obtain rfl := HH
        have e1 : ((i : Int) == 9) = true := beq_iff_eq.mpr (by omega)
        have e2 : decide (1 < x) = true := decide_eq_true hA.2
        clear hA
        go_wp2
        go_ret3
        exact ⟨rfl, Drawn0.refl _⟩
      · rw [if_neg hA] at HH
        have HNA := Lib.hid hA
        clear hA
        by_cases hB : x = 0 ∧ 0 < i
        · rw [if_pos hB] at HH
          obtain rfl := HH
          obtain ⟨rfl, hi0⟩ := hB
          have e2 : decide ((1 : Int) < 0) = false := rfl
          have e3 : decide ((0 : Int) < (i : Int)) = true := decide_eq_true (by omega)
          have e4 : decide ((0 : Nat) < i) = true := decide_eq_true hi0
          by_cases h9 : i = 9
          · have e1 : ((i : Int) == 9) = true := beq_iff_eq.mpr (by omega)
            clear h9
            go_wp2
            go_ret3
            exact ⟨rfl, Drawn0.refl _⟩
          · have e1 : ((i : Int) == 9) = false := beq_eq_false_iff_ne.mpr (by omega)
            clear h9
            go_wp2
            go_ret3
            exact ⟨rfl, Drawn0.refl _⟩
        · rw [if_neg hB] at HH
          have hi9 := hi9.out
          have HV := Lib.hid (take_val n x i HB2.out.1 HB2.out.2 hx0 hx1 hi9 (fun h => by have := HNA.out; omega))
          by_cases hL : x < 128
          · rw [if_pos hL] at HH
            obtain rfl := HH
            have e5 : (Go.bits .and .u8 x 128 == 0) = true := by rw [u8_and128 hx0 hx1, if_pos hL]; rfl
            have HL := Lib.hid (Int.emod_eq_of_lt hx0 hL)
            have HNB := Lib.hid hB
            by_cases h9 : i = 9
            · have e1 : ((i : Int) == 9) = true := beq_iff_eq.mpr (by omega)
              have e2 : decide (1 < x) = false := decide_eq_false (by have := HNA.out; omega)
              have e3 : (x == 0) = false := beq_eq_false_iff_ne.mpr (by omega)
              clear h9 hB hL
              go_wp2
              go_ret3
              exact ⟨by rw [HV.out, HL.out]; rfl, Drawn0.refl _⟩
            · have e1 : ((i : Int) == 9) = false := beq_eq_false_iff_ne.mpr (by omega)
              by_cases hx : x = 0
              · have e3 : (x == 0) = true := beq_iff_eq.mpr hx
                have e4 : decide ((0 : Int) < (i : Int)) = false := decide_eq_false (by omega)
                have e6 : decide ((0 : Nat) < i) = false := decide_eq_false (by omega)
                clear h9 hB hL hx
                go_wp2
                go_ret3
                exact ⟨by rw [HV.out, HL.out]; rfl, Drawn0.refl _⟩
              · have e3 : (x == 0) = false := beq_eq_false_iff_ne.mpr (by omega)
                clear h9 hB hL hx
                go_wp2
                go_ret3
                exact ⟨by rw [HV.out, HL.out]; rfl, Drawn0.refl _⟩
          · rw [if_neg hL] at HH
            have e5 : (Go.bits .and .u8 x 128 == 0) = false := by rw [u8_and128 hx0 hx1, if_neg hL]; rfl
            have e3 : (x == 0) = false := beq_eq_false_iff_ne.mpr (by omega)
            have e1 : ((i : Int) == 9) = false := beq_eq_false_iff_ne.mpr (by have := HNA.out; omega)
            have HL := Lib.hid (show x % 128 = x - 128 by omega)
            have HI := Lib.hid (show i + 1 ≤ 9 by have := HNA.out; omega)
            have HB3 := Lib.hid (take_step n x i HB2.out.1 HB2.out.2 (by omega) hx1)
            clear hB hL
            go_wp2
            go_round
            case measure => simp [intOf]; omega
            case rel => exact ⟨i + 1, _, _, by go_num, rfl, by omega, ⟨HI.out⟩, ⟨by rw [HV.out, HL.out]; exact HH⟩, ⟨HX2.out.symm⟩, ⟨by rw [HV.out, HL.out]; exact HB3.out⟩⟩
    · have hnil : xs = [] := by
        have := congrArg List.length HX.out; have h2 := HN8.out; simp at this h2; exact List.length_eq_zero_iff.1 (by omega)
      subst hnil
      go_wp2
      go_ret3
      have h := HT.out
      simp only [takeGo] at h
      subst h
      exact ⟨rfl, Drawn0.refl _⟩

set_option maxHeartbeats 8000000 in
set_option maxRecDepth 100000 in
theorem leb_Take.calls (A0 : Option Addr) (c0 : Nat) (l0 : List Int) (a1 : Int) (r1 : Int) (r2 : Int) (r3 : Int) (w : World) (hr0 : Kd.C (Kd.int .u8) w A0 l0.length l0) (hc0 : l0.length ≤ c0) (h : leb_Take.f l0 a1 = some (r1, r2, r3)) :
    Calls Tryd.prog 133 #[.slice A0 l0.length c0, .int .i64 a1] w fun e w' => e = .returned (.tuple #[.int .u64 r1, .int .i64 r2, .int .i64 r3]) ∧ Drawn0 w w' := by
  unfold leb_Take.f at h
  by_cases hg : l0.all byteB = true ∧ l0.length ≤ 281474976710656
  · rw [if_pos hg] at h
    have h := Option.some.inj h
    obtain ⟨hb, hlen⟩ := hg
    unfold lebTake at h
    by_cases ho : a1 < 0 ∨ (l0.length : Int) < a1
    · rw [if_pos ho] at h
      simp only [Prod.mk.injEq] at h
      obtain ⟨rfl, rfl, rfl⟩ := h
      clear hr0 hb hlen hc0
      by_cases h0 : a1 < 0
      · have e1 : decide (a1 < 0) = true := decide_eq_true h0
        clear ho h0
        go_enter Tryd.func133, Tryd.ntmps133
        go_wp2
        go_ret3
        exact ⟨rfl, Drawn0.refl _⟩
      · have e1 : decide (a1 < 0) = false := decide_eq_false h0
        have e2 : decide ((l0.length : Int) < a1) = true := decide_eq_true (by omega)
        clear ho h0
        go_enter Tryd.func133, Tryd.ntmps133
        go_wp2
        go_ret3
        exact ⟨rfl, Drawn0.refl _⟩
    · rw [if_neg ho] at h
      obtain ⟨m, rfl⟩ := Int.eq_ofNat_of_zero_le (show 0 ≤ a1 by omega)
      rw [Int.toNat_natCast] at h
      have := take_loop A0 c0 l0 m (r1, r2, r3) w hr0 hc0 (by omega) hb hlen h.symm
      exact this
  · rw [if_neg hg] at h; cases h
end Go.Proofs.YtjlmliagkfjcgaaDoor.Hand
