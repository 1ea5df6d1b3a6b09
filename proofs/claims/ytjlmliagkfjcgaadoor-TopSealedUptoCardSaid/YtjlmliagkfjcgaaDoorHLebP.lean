import Derived.Test.YtjlmliagkfjcgaaDoorHLebC
namespace Go.Proofs.YtjlmliagkfjcgaaDoor.Hand
open Go.RowKit Go.Proofs.YtjlmliagkfjcgaaDoorW.PrintWords Go.Proofs.YtjlmliagkfjcgaaDoorW.PrintLast Go.Proofs.YtjlmliagkfjcgaaDoorW.PrintMore
set_option linter.unusedVariables false
set_option linter.unusedSimpArgs false

/-! ### Plain laws of numbers' bytes -/
theorem u64B_wf {x : Int} (h : (Lit.int .u64 x).wf = true) : u64B x = true := by
  rw [u64B_iff]
  simp [Lit.wf, IntKind.min, IntKind.max, IntKind.signed, IntKind.bits] at h
  omega
theorem byteB_wf {x : Int} (h : (Lit.int .u8 x).wf = true) : byteB x = true := by
  rw [byteB_iff]
  simp [Lit.wf, IntKind.min, IntKind.max, IntKind.signed, IntKind.bits] at h
  omega
theorem bytes_wf {l : List Int} (h : ∀ x ∈ l, (Lit.int .u8 x).wf = true) : l.all byteB = true := List.all_eq_true.2 fun x hx => byteB_wf (h x hx)
theorem u64s_wf {l : List Int} (h : ∀ x ∈ l, (Lit.int .u64 x).wf = true) : l.all u64B = true := List.all_eq_true.2 fun x hx => u64B_wf (h x hx)
theorem i64_wf {x : Int} (h : (Lit.int .i64 x).wf = true) : -9223372036854775808 ≤ x ∧ x < 9223372036854775808 := by
  simp [Lit.wf, IntKind.min, IntKind.max, IntKind.signed, IntKind.bits] at h
  omega
theorem take_some {l : List Int} (a : Int) (hb : l.all byteB = true) (hm : l.length ≤ 281474976710656) : leb_Take.f l a = some (lebTake l a) := by
  unfold leb_Take.f
  rw [if_pos ⟨hb, hm⟩]
theorem takeR_some {l : List Int} (a : Int) (hb : l.all byteB = true) (hm : l.length ≤ 281474976710656) : secateurref01_Take.f l a = some (lebTake l a) := take_some a hb hm
theorem size_some {x : Int} (h : u64B x = true) : leb_Size.f x = some ((lebPut x).length : Int) := by
  unfold leb_Size.f
  rw [if_pos (u64B_iff.1 h)]
theorem putR_some {x : Int} (h : u64B x = true) : secateurref01_Put.f x = some (lebPut x) := put_some h
theorem zag_zig (n : Int) : zagI (zigI n) = n := by
  unfold zagI zigI
  split <;> split <;> omega
theorem zig_zag (u : Int) (h : 0 ≤ u) : zigI (zagI u) = u := by
  unfold zagI zigI
  split <;> split <;> omega
theorem zig_range (n : Int) (h0 : -9223372036854775808 ≤ n) (h1 : n < 9223372036854775808) : 0 ≤ zigI n ∧ zigI n < 18446744073709551616 := by
  unfold zigI
  split <;> omega
theorem zag_range (u : Int) (h0 : 0 ≤ u) (h1 : u < 18446744073709551616) : -9223372036854775808 ≤ zagI u ∧ zagI u < 9223372036854775808 := by
  unfold zagI
  split <;> omega
theorem lebTail_rises (f : Nat) : ∀ (a b : Int), 0 ≤ a → a ≤ b → (lebTail f a).length ≤ (lebTail f b).length := by
  induction f with
  | zero => intro a b _ _; exact Nat.le_refl _
  | succ f ih =>
    intro a b ha hab
    simp only [lebTail]
    by_cases h1 : a / 128 = 0
    · rw [if_pos h1]
      split <;> simp
    · rw [if_neg h1, if_neg (by omega)]
      simp only [List.length_cons]
      have := ih (a / 128) (b / 128) (by omega) (by omega)
      omega

/-- The bytes of a number, wherever they stand. -/
theorem take_put (a : Int) (xs : List Int) (f : Nat) : ∀ (m n : Int) (i : Nat), i + f = 10 → 0 < f → 0 ≤ m → m < 128 ^ f → (0 < m ∨ i = 0) → (m * 128 ^ i < 18446744073709551616) →
    takeGo a (lebTail f m ++ xs) i n = (n + m * 128 ^ i, a + i + (lebTail f m).length, 0) := by
  induction f with
  | zero => intro m n i _ h0; exact absurd h0 (by omega)
  | succ f ih =>
    intro m n i hi _ h0 h1 hp hu
    have h9 : i = 9 → m ≤ 1 := by
      rintro rfl
      have e : (128 : Int) ^ 9 = 9223372036854775808 := by decide
      rw [e] at hu
      omega
    simp only [lebTail]
    by_cases hz : m / 128 = 0
    · have hm : m % 128 = m := by omega
      rw [if_pos hz, hm]
      simp only [List.cons_append, List.nil_append, takeGo]
      rw [if_neg (by omega), if_neg (by omega), if_pos (by omega)]
      simp only [List.length_cons, List.length_nil, Prod.mk.injEq, true_and, and_true]
      push_cast
      omega
    · rw [if_neg hz]
      simp only [List.cons_append, takeGo]
      have hf : 0 < f := by
        rcases Nat.eq_zero_or_pos f with h | h
        · subst h; simp at h1; omega
        · exact h
      have h2 : m / 128 < 128 ^ f := by rw [Int.pow_succ] at h1; omega
      have e : m * 128 ^ i = (m % 128) * 128 ^ i + (m / 128) * 128 ^ (i + 1) := by
        have e1 : m = m % 128 + 128 * (m / 128) := by omega
        conv => lhs; rw [e1]
        rw [Int.add_mul, Int.pow_succ, Int.mul_comm (128 ^ i) 128, ← Int.mul_assoc, Int.mul_comm (m / 128) 128]
      have hp0 : (0 : Int) ≤ m % 128 * 128 ^ i := Int.mul_nonneg (by omega) (Int.pow_nonneg (by decide))
      rw [if_neg (by omega), if_neg (by omega), if_neg (by omega), ih (m / 128) _ (i + 1) (by omega) hf (by omega) h2 (.inl (by omega)) (by omega)]
      have e3 : m % 128 + 128 - 128 = m % 128 := by omega
      rw [e3]
      simp only [List.length_cons, Prod.mk.injEq, and_true]
      constructor
      · omega
      · push_cast
        omega

/-- What is taken was put so. -/
theorem put_take (a : Int) (xs : List Int) : ∀ (i : Nat) (n : Int), xs.all byteB = true → i ≤ 9 → (takeGo a xs i n).2.2 = 0 →
    ∃ (m : Int) (c : Nat), takeGo a xs i n = (n + m * 128 ^ i, a + i + c, 0) ∧ c ≤ xs.length ∧ xs.take c = lebTail (10 - i) m ∧ 0 ≤ m ∧ m < 128 ^ (10 - i) ∧ (0 < m ∨ i = 0) ∧ m < 2 * 128 ^ (9 - i) := by
  induction xs with
  | nil => intro i n _ _ h; simp [takeGo] at h
  | cons x xs ih =>
    intro i n hb hi h
    simp only [List.all_cons, Bool.and_eq_true] at hb
    obtain ⟨hx0, hx1⟩ := byteB_iff.1 hb.1
    simp only [takeGo] at h ⊢
    obtain ⟨g, hg⟩ : ∃ g, 10 - i = g + 1 := ⟨9 - i, by omega⟩
    by_cases hA : i = 9 ∧ 1 < x
    · rw [if_pos hA] at h; simp at h
    · rw [if_neg hA] at h ⊢
      by_cases hB : x = 0 ∧ 0 < i
      · rw [if_pos hB] at h; simp at h
      · rw [if_neg hB] at h ⊢
        by_cases hL : x < 128
        · rw [if_pos hL]
          refine ⟨x, 1, by simp, by simp, ?_, hx0, ?_, by omega, ?_⟩
          · rw [hg]
            have hz : x / 128 = 0 := by omega
            have hm : x % 128 = x := by omega
            simp only [lebTail, if_pos hz, hm]
            simp
          · rw [hg, Int.pow_succ]
            have : (0 : Int) < 128 ^ g := Int.pow_pos (by decide)
            omega
          · by_cases h9 : i = 9
            · subst h9
              simp
              omega
            · obtain ⟨g2, hg2⟩ : ∃ g2, 9 - i = g2 + 1 := ⟨8 - i, by omega⟩
              rw [hg2, Int.pow_succ]
              have : (0 : Int) < 128 ^ g2 := Int.pow_pos (by decide)
              omega
        · rw [if_neg hL] at h ⊢
          obtain ⟨m, c, h1, h2, h3, h4, h5, h6, h7⟩ := ih (i + 1) _ hb.2 (by omega) h
          have hgi : 10 - (i + 1) = g := by omega
          rw [hgi] at h3 h5
          have hmp : 0 < m := by omega
          refine ⟨(x - 128) + 128 * m, c + 1, ?_, by simp; omega, ?_, by omega, ?_, .inl (by omega), ?_⟩
          · rw [h1]
            simp only [Prod.mk.injEq, and_true]
            constructor
            · rw [Int.pow_succ, Int.add_mul, Int.mul_comm (128 ^ i) 128, ← Int.mul_assoc, Int.mul_comm m 128]
              omega
            · push_cast
              omega
          · rw [hg, List.take_succ_cons, h3]
            have hz : (x - 128 + 128 * m) / 128 = m := by omega
            have hm : (x - 128 + 128 * m) % 128 = x - 128 := by omega
            simp only [lebTail, hz, hm]
            rw [if_neg (by omega)]
            congr 1
            omega
          · rw [hg, Int.pow_succ]
            omega
          · have h8 : i ≠ 9 := by
              rintro rfl
              simp at h7 h5
              have : g = 0 := by omega
              subst this
              simp at h5
              omega
            obtain ⟨g2, hg2⟩ : ∃ g2, 9 - i = g2 + 1 := ⟨8 - i, by omega⟩
            have hg3 : 9 - (i + 1) = g2 := by omega
            rw [hg3] at h7
            rw [hg2, Int.pow_succ]
            omega
theorem lebTake_put (n : Int) (h : u64B n = true) (p q : List Int) : lebTake (p ++ lebPut n ++ q) p.length = (n, (p.length : Int) + (lebPut n).length, 0) := by
  obtain ⟨h0, h1⟩ := u64B_iff.1 h
  unfold lebTake
  rw [if_neg (by simp; omega), Int.toNat_natCast, List.append_assoc, List.drop_left]
  have := take_put p.length q 10 n 0 0 (by omega) (by omega) h0 (by rw [p128_10]; omega) (.inr rfl) (by simpa using h1)
  unfold lebPut
  rw [this]
  simp
theorem lebPut_take (l : List Int) (a : Nat) (hb : l.all byteB = true) (h : (lebTake l a).2.2 = 0) : u64B (lebTake l a).1 = true ∧ ∃ c : Nat, (lebTake l a).2.1 = (a : Int) + c ∧ 0 < c ∧ a + c ≤ l.length ∧ lebPut (lebTake l a).1 = (l.drop a).take c := by
  have hr := lebTake_range l a h
  unfold lebTake at h hr ⊢
  by_cases ho : (a : Int) < 0 ∨ (l.length : Int) < a
  · rw [if_pos ho] at h; simp at h
  · rw [if_neg ho] at h hr ⊢
    rw [Int.toNat_natCast] at h hr ⊢
    have hb2 : (l.drop a).all byteB = true := List.all_eq_true.2 fun x hx => List.all_eq_true.1 hb x (List.mem_of_mem_drop hx)
    obtain ⟨m, c, h1, h2, h3, h4, h5, h6, h7⟩ := put_take a (l.drop a) 0 0 hb2 (by omega) h
    rw [h1] at hr ⊢
    simp only [Int.pow_zero, Int.mul_one, Int.zero_add] at hr ⊢
    have hm : m < 18446744073709551616 := by
      have e : (2 : Int) * 128 ^ (9 - 0) = 18446744073709551616 := by decide
      rw [e] at h7
      exact h7
    exact ⟨u64B_iff.2 ⟨h4, hm⟩, c, by omega, by omega, by omega, h3.symm⟩

theorem split_join_go (l : List Int) : ∀ (f i : Nat) (p out : List Int), i = p.length → l.all u64B = true → (lebJoin l).length ≤ f → splitGo (p ++ lebJoin l) f i out = (out ++ l, 0) := by
  induction l with
  | nil =>
    intro f i p out hi _ _
    have e : lebJoin [] = [] := rfl
    rw [e, List.append_nil, List.append_nil]
    cases f with
    | zero => rfl
    | succ f => rw [splitGo, if_neg (by omega)]
  | cons x l ih =>
    intro f i p out hi hb hf
    simp only [List.all_cons, Bool.and_eq_true] at hb
    have e : lebJoin (x :: l) = lebPut x ++ lebJoin l := rfl
    have hpos : 0 < (lebPut x).length := lebTail_length_pos 10 x (by omega)
    rw [e, List.length_append] at hf
    obtain ⟨f, rfl⟩ : ∃ g, f = g + 1 := ⟨f - 1, by omega⟩
    have ht := lebTake_put x hb.1 p (lebJoin l)
    rw [List.append_assoc] at ht
    rw [e, splitGo, if_pos (by simp only [List.length_append]; omega), hi, ht]
    rw [if_pos rfl, ← List.append_assoc, ih f _ (p ++ lebPut x) (out ++ [x]) (by show ((p.length : Int) + (lebPut x).length).toNat = _; rw [List.length_append]; omega) hb.2 (by omega), List.append_assoc]
    rfl
theorem split_join (l : List Int) (h : l.all u64B = true) : lebSplit (lebJoin l) = (l, 0) := by
  have := split_join_go l (lebJoin l).length 0 [] [] rfl h (Nat.le_refl _)
  simpa [lebSplit] using this
theorem join_split_go (b : List Int) (hb : b.all byteB = true) (f : Nat) : ∀ (i : Nat) (out : List Int), b.length - i ≤ f → i ≤ b.length → (splitGo b f i out).2 = 0 →
    ∃ l, (splitGo b f i out).1 = out ++ l ∧ l.all u64B = true ∧ lebJoin l = b.drop i ∧ l.length ≤ b.length - i := by
  induction f with
  | zero =>
    intro i out hd hi _
    exact ⟨[], by simp [splitGo], rfl, by rw [List.drop_of_length_le (by omega)]; rfl, by simp⟩
  | succ f ih =>
    intro i out hd hi h
    rw [splitGo] at h ⊢
    by_cases hlt : i < b.length
    · rw [if_pos hlt] at h ⊢
      by_cases he : (lebTake b i).2.2 = 0
      · rw [if_pos he] at h ⊢
        obtain ⟨hu, c, hc, hc0, hcl, hp⟩ := lebPut_take b i hb he
        have hj : (lebTake b i).2.1.toNat = i + c := by omega
        rw [hj] at h ⊢
        obtain ⟨l, h1, h2, h3, h4⟩ := ih (i + c) _ (by omega) (by omega) h
        refine ⟨(lebTake b i).1 :: l, by rw [h1, List.append_assoc]; rfl, by rw [List.all_cons, hu, h2]; rfl, ?_, by rw [List.length_cons]; omega⟩
        have e : lebJoin ((lebTake b i).1 :: l) = lebPut (lebTake b i).1 ++ lebJoin l := rfl
        rw [e, hp, h3, ← List.drop_drop, List.take_append_drop]
      · rw [if_neg he] at h
        exact absurd h he
    · rw [if_neg hlt]
      exact ⟨[], by simp, rfl, by rw [List.drop_of_length_le (by omega)]; rfl, by simp⟩
theorem join_split (b : List Int) (hb : b.all byteB = true) (h : (lebSplit b).2 = 0) : (lebSplit b).1.all u64B = true ∧ lebJoin (lebSplit b).1 = b ∧ (lebSplit b).1.length ≤ b.length := by
  obtain ⟨l, h1, h2, h3, h4⟩ := join_split_go b hb b.length 0 [] (by omega) (by omega) h
  unfold lebSplit
  rw [h1, List.nil_append]
  exact ⟨h2, h3, h4⟩
theorem lebTail_bytes (f : Nat) : ∀ m : Int, (lebTail f m).all byteB = true := by
  induction f with
  | zero => intro m; rfl
  | succ f ih =>
    intro m
    simp only [lebTail]
    split
    · simp only [List.all_cons, List.all_nil, Bool.and_true]
      exact byteB_iff.2 (by omega)
    · rw [List.all_cons, ih, Bool.and_true]
      exact byteB_iff.2 (by omega)
theorem lebPut_bytes (n : Int) : (lebPut n).all byteB = true := lebTail_bytes 10 n
theorem lebJoin_bytes (l : List Int) : (lebJoin l).all byteB = true := by
  unfold lebJoin
  induction l with
  | nil => rfl
  | cons x l ih => rw [List.flatMap_cons, List.all_append, lebPut_bytes, ih]; rfl
end Go.Proofs.YtjlmliagkfjcgaaDoor.Hand
