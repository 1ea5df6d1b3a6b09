import Derived.Test.YtjlmliagkfjcgaaDoorHLebB
namespace Go.Proofs.YtjlmliagkfjcgaaDoor.Hand
open Go.RowKit Go.Proofs.YtjlmliagkfjcgaaDoorW.PrintWords Go.Proofs.YtjlmliagkfjcgaaDoorW.PrintLast Go.Proofs.YtjlmliagkfjcgaaDoorW.PrintMore
set_option linter.unusedVariables false
set_option linter.unusedSimpArgs false

/-! ### the reference's Take -/
def secateurref01_Take.f (l0 : List Int) (a1 : Int) : Option (Int × Int × Int) := leb_Take.f l0 a1
theorem shl_val (n x : Int) (i : Nat) (hn0 : 0 ≤ n) (hn1 : n < 128 ^ i) (hx0 : 0 ≤ x) (hx1 : x < 256) (hi : i ≤ 9) (h9 : i = 9 → x ≤ 1) :
    Go.bits .or .u64 n (shl .u64 (IntKind.u64.wrap (Int.tmod x 128)) (IntKind.u64.wrap (wrap64 (7 * (i : Int))))) = n + x % 128 * 128 ^ i := by
  have hv := take_val n x i hn0 hn1 hx0 hx1 hi h9
  rw [u8_andNot hx0 hx1] at hv
  rw [Int.tmod_eq_emod_of_nonneg hx0, w64 (by omega) (by omega), wu64 (x := 7 * (i : Int)) (by omega) (by omega)]
  unfold shl
  have e : min (7 * (i : Int)).toNat IntKind.u64.bits = 7 * i := by
    have : IntKind.u64.bits = 64 := rfl
    rw [this]
    omega
  rw [e]
  exact hv
theorem takeR_loop (l : List Int) (a : Nat) (hb : l.all byteB = true) (hm : l.length ≤ 281474976710656) (ha : a ≤ l.length) (d : Nat) : ∀ (k i : Nat) (n : Int), 10 - i = d → i ≤ 9 → 2 * d < k → a + i ≤ l.length → 0 ≤ n → n < 128 ^ i →
    Q1.secateurref01_Take.l0 k l a n i = some (takeGo a (l.drop (a + i)) i n) := by
  induction d with
  | zero => intro k i n hd hi; omega
  | succ d ih =>
    intro k i n hd hi hk hl hn0 hn1
    obtain ⟨k, rfl⟩ : ∃ m, k = m + 1 + 1 := ⟨k - 2, by omega⟩
    have e1 : wrap64 ((a : Int) + i) = ((a + i : Nat) : Int) := by rw [w64 (by omega) (by omega)]; push_cast; rfl
    have a1 : 10 - (i + 1) = d := by omega
    have a2 : 2 * d < k := by omega
    simp only [Q1.secateurref01_Take.l0]
    rw [if_pos (by omega), e1]
    by_cases hE : a + i = l.length
    · rw [if_pos (by omega), hE, List.drop_of_length_le (by omega)]
      rfl
    · rw [if_neg (by omega), if_pos (by omega), if_pos (by omega), rd_nat, drop_cons l (i := a + i) (by omega)]
      have hx := byteB_iff.1 (all_getD hb (i := a + i) (by omega))
      generalize l.getD (a + i) 0 = x at hx
      obtain ⟨hx0, hx1⟩ := hx
      simp only [takeGo]
      by_cases hA : i = 9 ∧ 1 < x
      · rw [if_pos hA, if_pos (by omega), decide_eq_true (show x > 1 from hA.2)]
        rw [Q1.secateurref01_Take.j2, if_pos rfl]
      · have hj : (if (i : Int) = 9 then Q1.secateurref01_Take.j2 (k + 1) l a n i x (decide (x > 1)) else Q1.secateurref01_Take.j2 (k + 1) l a n i x false) = Q1.secateurref01_Take.j2 (k + 1) l a n i x false := by
          by_cases h9 : (i : Int) = 9
          · rw [if_pos h9, decide_eq_false (show ¬ x > 1 by omega)]
          · rw [if_neg h9]
        rw [hj, if_neg hA]
        simp only [Q1.secateurref01_Take.j2]
        have hv := shl_val n x i hn0 hn1 hx0 hx1 hi (fun h => by omega)
        have e7 : 0 ≤ IntKind.u64.wrap (wrap64 (7 * (i : Int))) := by
          rw [w64 (by omega) (by omega), wu64 (x := 7 * (i : Int)) (by omega) (by omega)]
          omega
        have e2 : wrap64 (((a + i : Nat) : Int) + 1) = (a : Int) + i + 1 := by rw [w64 (by omega) (by omega)]; push_cast; rfl
        rw [if_neg (by simp), if_pos e7, hv, e1, e2]
        by_cases hL : x < 128
        · rw [if_pos hL]
          by_cases hz : x = 0 ∧ 0 < i
          · rw [if_pos hz.1, if_pos (by omega), if_pos hz]
          · have hm : x % 128 = x := by omega
            rw [if_neg hz, if_pos hL, hm]
            by_cases hx0 : x = 0
            · rw [if_pos hx0, if_neg (by omega)]
            · rw [if_neg hx0]
        · rw [if_neg hL, if_neg (by omega), if_neg hL, w64 (by omega) (by omega)]
          have hm : x % 128 = x - 128 := by omega
          have a3 : i + 1 ≤ 9 := by clear hv e7 e2 hj e1; omega
          have a4 : a + (i + 1) ≤ l.length := by clear hv e7 e2 hj e1; omega
          have hs := take_step n x i hn0 hn1 (by omega) hx1
          have ih := ih k (i + 1) (n + (x - 128) * 128 ^ i) a1 a3 a2 a4 hs.1 hs.2
          rw [show a + (i + 1) = a + i + 1 from by omega] at ih
          push_cast at ih
          rw [hm, ih]
theorem takeR_eq (l : List Int) (a : Int) (hb : l.all byteB = true) (hm : l.length ≤ 281474976710656) : Q1.secateurref01_Take.f 40 l a = some (lebTake l a) := by
  unfold Q1.secateurref01_Take.f lebTake
  by_cases h0 : a < 0
  · rw [if_pos h0, if_pos (.inl h0)]
    rw [Q1.secateurref01_Take.j0, if_pos rfl]
  · rw [if_neg h0]
    by_cases h1 : (l.length : Int) < a
    · rw [if_pos (.inr h1), decide_eq_true (show a > (l.length : Int) from h1)]
      rw [Q1.secateurref01_Take.j0, if_pos rfl]
    · rw [if_neg (by omega), decide_eq_false (show ¬ a > (l.length : Int) from h1)]
      obtain ⟨m, rfl⟩ := Int.eq_ofNat_of_zero_le (show 0 ≤ a by omega)
      simp only [Q1.secateurref01_Take.j0]
      rw [if_neg (by simp)]
      exact takeR_loop l m hb hm (by omega) 10 39 0 0 rfl (by omega) (by omega) (by omega) (by omega) (by decide)
theorem takeR_more (l : List Int) (a : Int) (hb : l.all byteB = true) (hm : l.length ≤ 281474976710656) : ∀ j, Q1.secateurref01_Take.f (j + 40) l a = some (lebTake l a)
  | 0 => takeR_eq l a hb hm
  | j + 1 => by
    have h := Q1.secateurref01_Take.mono l a (j + 40) _ (takeR_more l a hb hm j)
    rw [show j + 1 + 40 = j + 40 + 1 from by omega]
    exact h
theorem secateurref01_Take.calls (A0 : Option Addr) (c0 : Nat) (l0 : List Int) (a1 : Int) (r1 : Int) (r2 : Int) (r3 : Int) (w : World) (hr0 : Kd.C (Kd.int .u8) w A0 l0.length l0) (hc0 : l0.length ≤ c0) (h : secateurref01_Take.f l0 a1 = some (r1, r2, r3)) :
    Calls Tryd.prog 152 #[.slice A0 l0.length c0, .int .i64 a1] w fun e w' => e = .returned (.tuple #[.int .u64 r1, .int .i64 r2, .int .i64 r3]) ∧ Drawn0 w w' := by
  unfold secateurref01_Take.f leb_Take.f at h
  split at h
  · rename_i hg
    exact Q1.secateurref01_Take.calls 40 A0 c0 l0 a1 r1 r2 r3 w hr0 hc0 ((takeR_eq l0 a1 hg.1 hg.2).trans h)
  · cases h

/-! ### Split -/
theorem takeGo_range (a : Int) : ∀ (xs : List Int) (i : Nat) (n : Int), (takeGo a xs i n).2.2 = 0 → a + i < (takeGo a xs i n).2.1 ∧ (takeGo a xs i n).2.1 ≤ a + i + xs.length
  | [], i, n => by intro h; simp [takeGo] at h
  | x :: xs, i, n => by
    unfold takeGo
    split
    · intro h; simp at h
    · split
      · intro h; simp at h
      · split
        · intro _
          simp only [List.length_cons]
          omega
        · intro h
          have := takeGo_range a xs (i + 1) (n + (x - 128) * 128 ^ i) h
          simp only [List.length_cons]
          push_cast at this ⊢
          omega
theorem lebTake_range (l : List Int) (a : Nat) (h : (lebTake l a).2.2 = 0) : (a : Int) < (lebTake l a).2.1 ∧ (lebTake l a).2.1 ≤ l.length := by
  unfold lebTake at h ⊢
  split at h
  · simp at h
  · rename_i hg
    rw [if_neg hg]
    have := takeGo_range a _ 0 0 h
    rw [Int.toNat_natCast, List.length_drop] at this
    rw [Int.toNat_natCast]
    omega
def splitGo (b : List Int) : Nat → Nat → List Int → List Int × Int
  | 0, _, out => (out, 0)
  | f + 1, i, out => if i < b.length then (if (lebTake b i).2.2 = 0 then splitGo b f (lebTake b i).2.1.toNat (out ++ [(lebTake b i).1]) else ([], (lebTake b i).2.2)) else (out, 0)
def lebSplit (b : List Int) : List Int × Int := splitGo b b.length 0 []
def leb_Split.f (l0 : List Int) : Option (List Int × Int) := if l0.all byteB = true ∧ l0.length ≤ 4294967296 then some (lebSplit l0) else none
def secateurref01_Split.f (l0 : List Int) : Option (List Int × Int) := leb_Split.f l0
theorem split_loop (b : List Int) (hb : b.all byteB = true) (hm : b.length ≤ 4294967296) (f : Nat) : ∀ (i : Nat) (out : List Int), b.length - i ≤ f → i ≤ b.length → out.length ≤ i → Q1.leb_Split.l0 (f + 1) b out i = some (splitGo b f i out) := by
  induction f with
  | zero =>
    intro i out hd hi ho
    simp only [Q1.leb_Split.l0]
    rw [if_neg (by omega)]
    rfl
  | succ f ih =>
    intro i out hd hi ho
    rw [splitGo, Q1.leb_Split.l0]
    by_cases hlt : i < b.length
    · have ht : leb_Take.f b i = some (lebTake b i) := by unfold leb_Take.f; rw [if_pos ⟨hb, by omega⟩]
      rw [if_pos (by omega), if_pos hlt, ht, Option.bind_some]
      by_cases he : (lebTake b i).2.2 = 0
      · rw [if_pos he, if_pos he, if_pos (by omega)]
        have hr := lebTake_range b i he
        obtain ⟨j, hj⟩ := Int.eq_ofNat_of_zero_le (show 0 ≤ (lebTake b i).2.1 by omega)
        rw [hj, Int.toNat_natCast]
        rw [hj] at hr
        exact ih j _ (by omega) (by omega) (by rw [List.length_append]; simp; omega)
      · rw [if_neg he, if_neg he]
    · rw [if_neg (by omega), if_neg hlt]
theorem leb_Split.calls (A0 : Option Addr) (c0 : Nat) (l0 : List Int) (r1 : List Int) (r2 : Int) (w : World) (hr0 : Kd.C (Kd.int .u8) w A0 l0.length l0) (hc0 : l0.length ≤ c0) (h : leb_Split.f l0 = some (r1, r2)) :
    Calls Tryd.prog 112 #[.slice A0 l0.length c0] w fun e w' => ∃ v0_ : Value, e = .returned (.tuple #[v0_, .int .i64 r2]) ∧ Kd.R (Kd.int .u64) 52 w' w.heap.size (fun _ => True) v0_ r1 ∧ Below w.heap.size w w' := by
  unfold leb_Split.f at h
  split at h
  · rename_i hg
    exact Q1.leb_Split.calls (l0.length + 1) A0 c0 l0 r1 r2 w hr0 hc0 ((split_loop l0 hg.1 hg.2 _ 0 [] (by omega) (by omega) (by simp)).trans h)
  · cases h
end Go.Proofs.YtjlmliagkfjcgaaDoor.Hand
