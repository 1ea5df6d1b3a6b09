namespace Go.Proofs.Ytcbakmojhicahaa.Hand
/-! ### texts as lists of bytes -/
def bl (s : ByteArray) : List UInt8 := s.data.toList
def lb (l : List UInt8) : ByteArray := ⟨l.toArray⟩
@[simp] theorem bl_lb (l : List UInt8) : bl (lb l) = l := rfl
@[simp] theorem lb_bl (s : ByteArray) : lb (bl s) = s := by cases s; simp [lb, bl]
theorem bl_inj {a b : ByteArray} (h : bl a = bl b) : a = b := by rw [← lb_bl a, ← lb_bl b, h]
theorem bl_len (s : ByteArray) : (bl s).length = s.size := by unfold bl; rw [Array.length_toList]; rfl
theorem lb_size (l : List UInt8) : (lb l).size = l.length := rfl
theorem bl_append (a b : ByteArray) : bl (a ++ b) = bl a ++ bl b := by simp [bl, ByteArray.data_append]
theorem bl_nil : bl ⟨#[]⟩ = [] := rfl

/-! ### numbers -/
def digB (b : UInt8) : Bool := decide (48 ≤ b.toNat ∧ b.toNat ≤ 57)
def digC (d : Nat) : UInt8 := UInt8.ofNat (48 + d)
def decR : Nat → Nat → List UInt8
  | 0, _ => []
  | f + 1, n => if n < 10 then [digC n] else digC (n % 10) :: decR f (n / 10)
def decL (n : Nat) : List UInt8 := (decR 20 n).reverse
def digitsL (n : Int) : List UInt8 := if n < 0 then 45 :: decL n.natAbs else decL n.natAbs
def valF (a : Nat) (b : UInt8) : Nat := a * 10 + (b.toNat - 48)
def valL (l : List UInt8) : Nat := l.foldl valF 0
def formB (l : List UInt8) : Bool := !l.isEmpty && (l.head? != some 48 || l == [48]) && l.all digB
def parseL (l : List UInt8) : Int × Int := if formB l = true then (if valL l > 65536 then (0, 12) else ((valL l : Int), 0)) else (0, 1)

theorem dig_of {d : Nat} (h : d < 10) : digB (digC d) = true ∧ (digC d).toNat = 48 + d := by
  have h1 : (digC d).toNat = 48 + d := by unfold digC; rw [UInt8.toNat_ofNat']; omega
  refine ⟨?_, h1⟩
  unfold digB
  rw [h1]
  simp
  omega
theorem decR_dig : ∀ f n, (decR f n).all digB = true
  | 0, _ => rfl
  | f + 1, n => by
    unfold decR
    split
    · rename_i h
      simp [(dig_of h).1]
    · rw [List.all_cons, (dig_of (Nat.mod_lt n (by decide))).1, decR_dig f, Bool.and_self]
theorem foldl_rev (l : List UInt8) : ∀ b, l.reverse.foldl valF b = (l.foldr (fun c a => valF a c) b) := by
  intro b
  rw [List.foldl_reverse]
theorem decR_val : ∀ f n, n < 10 ^ f → (decR f n).foldr (fun c a => valF a c) 0 = n
  | 0, n, h => by simp at h; subst h; rfl
  | f + 1, n, h => by
    unfold decR
    split
    · rename_i h1
      simp [valF, (dig_of h1).2]
    · rename_i h1
      have ih := decR_val f (n / 10) (by rw [Nat.pow_succ] at h; omega)
      rw [List.foldr_cons, ih]
      unfold valF
      rw [(dig_of (Nat.mod_lt n (by decide))).2]
      omega
theorem decL_val {n : Nat} (h : n < 10 ^ 20) : valL (decL n) = n := by
  unfold valL decL
  rw [foldl_rev, decR_val 20 n h]
theorem decR_last : ∀ f n, n < 10 ^ f → 0 < n → ∃ d, (decR f n).getLast? = some (digC d) ∧ 0 < d ∧ d < 10
  | 0, n, h, h0 => by simp at h; omega
  | f + 1, n, h, h0 => by
    unfold decR
    split
    · rename_i h1
      exact ⟨n, rfl, h0, h1⟩
    · rename_i h1
      obtain ⟨d, hd, h2⟩ := decR_last f (n / 10) (by rw [Nat.pow_succ] at h; omega) (by omega)
      refine ⟨d, ?_, h2⟩
      rw [List.getLast?_cons, hd]
      rfl
theorem decL_zero : decL 0 = [48] := rfl
theorem decL_form {n : Nat} (h : n < 10 ^ 20) : formB (decL n) = true := by
  rcases Nat.eq_zero_or_pos n with rfl | h0
  · decide
  · obtain ⟨d, hd, h1, h2⟩ := decR_last 20 n h h0
    have hh : (decL n).head? = some (digC d) := by unfold decL; rw [List.head?_reverse, hd]
    have hne : decL n ≠ [] := by intro e; rw [e] at hh; cases hh
    have hd2 : digC d ≠ 48 := by
      intro e
      have := (dig_of h2).2
      rw [e] at this
      have h3 : (48 : UInt8).toNat = 48 := rfl
      omega
    have hall : (decL n).all digB = true := by unfold decL; rw [List.all_reverse, decR_dig]
    unfold formB
    rw [hh, hall]
    cases hl : decL n with
    | nil => exact absurd hl hne
    | cons x r => simp [bne, hd2]
theorem parse_digits (n : Int) (h0 : -9223372036854775808 ≤ n) (h1 : n ≤ 9223372036854775807) : parseL (digitsL n) = if n < 0 then (0, 1) else if n > 65536 then (0, 12) else (n, 0) := by
  have hb : n.natAbs < 10 ^ 20 := by have : (10 : Nat) ^ 20 = 100000000000000000000 := by decide
                                     omega
  unfold parseL digitsL
  by_cases hn : n < 0
  · rw [if_pos hn, if_pos hn, if_neg]
    unfold formB
    rw [List.all_cons, show digB 45 = false from by decide]
    simp
  · rw [if_neg hn, if_neg hn, if_pos (decL_form hb), decL_val hb]
    by_cases h2 : n > 65536
    · rw [if_pos (by omega), if_pos h2]
    · rw [if_neg (by omega), if_neg h2]
      congr 1
      omega
theorem dig_back {x : UInt8} (h : digB x = true) : digC (x.toNat - 48) = x ∧ x.toNat - 48 < 10 := by
  unfold digB at h
  have h := of_decide_eq_true h
  have e : 48 + (x.toNat - 48) = x.toNat := by omega
  unfold digC
  rw [e]
  exact ⟨by simp, by omega⟩
def valR (r : List UInt8) : Nat := r.foldr (fun c a => valF a c) 0
theorem valR_cons (x : UInt8) (r : List UInt8) : valR (x :: r) = valR r * 10 + (x.toNat - 48) := rfl
theorem valR_pos : ∀ (r : List UInt8), r.all digB = true → r ≠ [] → r.getLast? ≠ some 48 → 0 < valR r
  | [], _, h, _ => absurd rfl h
  | [x], h, _, h1 => by
    rw [valR_cons]
    simp at h h1
    unfold digB at h
    have h := of_decide_eq_true h
    have h3 : x.toNat ≠ 48 := fun e => h1 (UInt8.toNat.inj e)
    omega
  | x :: y :: r, h, _, h1 => by
    rw [valR_cons]
    have := valR_pos (y :: r) (by simp at h ⊢; exact h.2) (by simp) (by rw [List.getLast?_cons_cons] at h1; exact h1)
    omega
theorem decR_back : ∀ (f : Nat) (r : List UInt8), r.all digB = true → r ≠ [] → (r.getLast? ≠ some 48 ∨ r = [48]) → r.length ≤ f → decR f (valR r) = r
  | f, [], _, h, _, _ => absurd rfl h
  | 0, x :: r, _, _, _, h => by simp at h
  | f + 1, [x], h, _, _, _ => by
    simp at h
    have hb := dig_back h
    rw [valR_cons, decR, if_pos (by show 0 * 10 + _ < 10; omega)]
    show [digC (0 * 10 + _)] = _
    rw [Nat.zero_mul, Nat.zero_add, hb.1]
  | f + 1, x :: y :: r, h, _, h1, hf => by
    have hx : digB x = true := by simp at h; exact h.1
    have hy : (y :: r).all digB = true := by simp at h ⊢; exact h.2
    have hl : (y :: r).getLast? ≠ some 48 := by
      rcases h1 with h1 | h1
      · rw [List.getLast?_cons_cons] at h1; exact h1
      · cases h1
    have hp := valR_pos (y :: r) hy (by simp) hl
    have hb := dig_back hx
    have ih := decR_back f (y :: r) hy (by simp) (.inl hl) (by simp at hf ⊢; omega)
    rw [valR_cons, decR, if_neg (by omega)]
    have e1 : (valR (y :: r) * 10 + (x.toNat - 48)) % 10 = x.toNat - 48 := by omega
    have e2 : (valR (y :: r) * 10 + (x.toNat - 48)) / 10 = valR (y :: r) := by omega
    rw [e1, e2, ih, hb.1]
theorem valR_eq (l : List UInt8) : valL l = valR l.reverse := by
  have := foldl_rev l.reverse 0
  rw [List.reverse_reverse] at this
  exact this
theorem valR_ge : ∀ (r : List UInt8), r.all digB = true → r.getLast? ≠ some 48 → r ≠ [] → 10 ^ (r.length - 1) ≤ valR r
  | [], _, _, h => absurd rfl h
  | [x], h, h1, h0 => by have := valR_pos [x] h h0 h1; exact this
  | x :: y :: r, h, h1, _ => by
    have ih := valR_ge (y :: r) (by simp at h ⊢; exact h.2) (by rw [List.getLast?_cons_cons] at h1; exact h1) (by simp)
    rw [valR_cons]
    have e : (x :: y :: r).length - 1 = (y :: r).length - 1 + 1 := by simp
    rw [e, Nat.pow_succ]
    omega
theorem digits_parse (l : List UInt8) (y : Int) (h : parseL l = (y, 0)) : digitsL y = l := by
  unfold parseL at h
  split at h
  · rename_i hf
    split at h
    · have h2 := congrArg Prod.snd h; simp at h2
    · rename_i hv
      have hy : (valL l : Int) = y := congrArg Prod.fst h
      subst hy
      unfold digitsL
      rw [if_neg (by omega), Int.natAbs_natCast]
      unfold formB at hf
      simp only [Bool.and_eq_true, Bool.or_eq_true] at hf
      obtain ⟨⟨h1, h2⟩, h3⟩ := hf
      have hne : l.reverse ≠ [] := by intro e; rw [List.reverse_eq_nil_iff] at e; subst e; cases h1
      have hr : l.reverse.all digB = true := by rw [List.all_reverse, h3]
      have hd : l.reverse.getLast? ≠ some 48 ∨ l.reverse = [48] := by
        rcases h2 with h2 | h2
        · left
          rw [List.getLast?_reverse]
          simpa using h2
        · right
          have : l = [48] := by simpa using h2
          rw [this]
          rfl
      have hlen : l.reverse.length ≤ 20 := by
        rcases hd with hd | hd
        · have hg := valR_ge l.reverse hr hd hne
          rw [← valR_eq] at hg
          rcases Nat.lt_or_ge 20 l.reverse.length with hx | hx
          · have : 10 ^ 20 ≤ 10 ^ (l.reverse.length - 1) := Nat.pow_le_pow_right (by decide) (by omega)
            have e20 : (10 : Nat) ^ 20 = 100000000000000000000 := by decide
            omega
          · exact hx
        · rw [hd]; decide
      unfold decL
      rw [valR_eq, decR_back 20 l.reverse hr hne hd hlen, List.reverse_reverse]
  · have h2 := congrArg Prod.snd h; simp at h2

/-! ### lines -/
def seen (b : UInt8) : Bool := decide (32 ≤ b.toNat ∧ b.toNat ≤ 126)
def lin : List UInt8 → List (List UInt8) → List UInt8 → List (List UInt8) × Int × Int
  | cur, out, [] => if cur = [] then (out, 0, 0) else ([], 1, (out.length : Int) + 1)
  | cur, out, b :: r => if b = 10 then lin [] (out ++ [cur]) r else if seen b = true then lin (cur ++ [b]) out r else ([], 1, (out.length : Int) + 1)
def linesL (s : List UInt8) : List (List UInt8) × Int × Int := if s.length > 65536 then ([], 3, 0) else lin [] [] s
def textL (l : List (List UInt8)) : List UInt8 := l.flatMap (fun s => s ++ [10])
theorem seen_nl {b : UInt8} (h : seen b = true) : b ≠ 10 := by rintro rfl; revert h; decide
theorem lin_line (x : List UInt8) (hx : x.all seen = true) : ∀ (cur : List UInt8) (out : List (List UInt8)) (r : List UInt8), lin cur out (x ++ 10 :: r) = lin [] (out ++ [cur ++ x]) r := by
  induction x with
  | nil => intro cur out r; simp [lin]
  | cons b x ih =>
    intro cur out r
    simp only [List.all_cons, Bool.and_eq_true] at hx
    rw [List.cons_append, lin, if_neg (seen_nl hx.1), if_pos hx.1, ih hx.2]
    simp
theorem textL_cons (x : List UInt8) (l : List (List UInt8)) : textL (x :: l) = x ++ 10 :: textL l := by simp [textL]
theorem textL_append (a b : List (List UInt8)) : textL (a ++ b) = textL a ++ textL b := by simp [textL]
theorem lin_text : ∀ (l : List (List UInt8)), (∀ x ∈ l, x.all seen = true) → ∀ out, lin [] out (textL l) = (out ++ l, 0, 0)
  | [], _, out => by simp [textL, lin]
  | x :: l, h, out => by
    rw [textL_cons, lin_line x (h x (by simp)), lin_text l (fun y hy => h y (by simp [hy]))]
    simp
theorem lines_text (l : List (List UInt8)) (h : ∀ x ∈ l, x.all seen = true) (hn : (textL l).length ≤ 65536) : linesL (textL l) = (l, 0, 0) := by
  unfold linesL
  rw [if_neg (by omega), lin_text l h]
  rfl
theorem lin_back : ∀ (s cur : List UInt8) (out m : List (List UInt8)) (f : Int), lin cur out s = (m, 0, f) → textL out ++ cur ++ s = textL m ∧ f = 0
  | [], cur, out, m, f, h => by
    unfold lin at h
    split at h
    · rename_i hc
      simp at h
      simp [hc, h]
    · simp at h
  | b :: r, cur, out, m, f, h => by
    unfold lin at h
    split at h
    · rename_i hb
      have := lin_back r [] (out ++ [cur]) m f h
      rw [textL_append] at this
      simp [textL] at this ⊢
      rw [hb]
      exact this
    · split at h
      · have := lin_back r (cur ++ [b]) out m f h
        simpa using this
      · simp at h
theorem lines_back (s : List UInt8) (m : List (List UInt8)) (f : Int) (h : linesL s = (m, 0, f)) : textL m = s ∧ f = 0 := by
  unfold linesL at h
  split at h
  · simp at h
  · have := lin_back s [] [] m f h
    simp [textL] at this
    simp [textL, this]
theorem lin_seen : ∀ (s cur : List UInt8) (out m : List (List UInt8)) (f : Int), lin cur out s = (m, 0, f) → cur.all seen = true → (∀ x ∈ out, x.all seen = true) → ∀ x ∈ m, x.all seen = true
  | [], cur, out, m, f, h, hc, ho => by
    unfold lin at h
    split at h
    · simp at h
      rw [← h.1]
      exact ho
    · simp at h
  | b :: r, cur, out, m, f, h, hc, ho => by
    unfold lin at h
    split at h
    · refine lin_seen r [] (out ++ [cur]) m f h rfl ?_
      intro x hx
      simp at hx
      rcases hx with hx | hx
      · exact ho x hx
      · rw [hx]; exact hc
    · split at h
      · rename_i hb
        refine lin_seen r (cur ++ [b]) out m f h ?_ ho
        rw [List.all_append, hc, List.all_cons, hb]
        rfl
      · simp at h

/-! ### fields -/
def fld : List UInt8 → List UInt8 → List (List UInt8)
  | cur, [] => [cur]
  | cur, b :: r => if b = 32 then cur :: fld [] r else fld (cur ++ [b]) r
def fieldsL (s : List UInt8) : List (List UInt8) := fld [] s
def lineL : List (List UInt8) → List UInt8
  | [] => []
  | [x] => x
  | x :: y :: l => x ++ 32 :: lineL (y :: l)
theorem fld_ne : ∀ (s cur : List UInt8), fld cur s ≠ []
  | [], _ => by simp [fld]
  | b :: r, cur => by
    unfold fld
    split
    · simp
    · exact fld_ne r _
theorem lineL_cons (x : List UInt8) (l : List (List UInt8)) (h : l ≠ []) : lineL (x :: l) = x ++ 32 :: lineL l := by
  cases l with
  | nil => exact absurd rfl h
  | cons y l => rfl
theorem line_fld : ∀ (s cur : List UInt8), lineL (fld cur s) = cur ++ s
  | [], cur => by simp [fld, lineL]
  | b :: r, cur => by
    unfold fld
    split
    · rename_i hb
      rw [lineL_cons _ _ (fld_ne _ _), line_fld r [], hb]
      simp
    · rw [line_fld r]
      simp
theorem line_fields (s : List UInt8) : lineL (fieldsL s) = s := line_fld s []
def blank (l : List UInt8) : Bool := l.any (fun b => b == 32)
theorem fld_word : ∀ (x cur r : List UInt8), blank x = false → fld cur (x ++ 32 :: r) = (cur ++ x) :: fld [] r
  | [], cur, r, _ => by simp [fld]
  | b :: x, cur, r, h => by
    unfold blank at h
    simp only [List.any_cons, Bool.or_eq_false_iff] at h
    rw [List.cons_append, fld, if_neg (by simpa using h.1), fld_word x _ r h.2]
    simp
theorem fld_last : ∀ (x cur : List UInt8), blank x = false → fld cur x = [cur ++ x]
  | [], cur, _ => by simp [fld]
  | b :: x, cur, h => by
    unfold blank at h
    simp only [List.any_cons, Bool.or_eq_false_iff] at h
    rw [fld, if_neg (by simpa using h.1), fld_last x _ h.2]
    simp
theorem fields_line : ∀ (l : List (List UInt8)), l ≠ [] → (∀ x ∈ l, blank x = false) → fieldsL (lineL l) = l
  | [], h, _ => absurd rfl h
  | [x], _, h => by unfold fieldsL lineL; rw [fld_last x [] (h x (by simp))]; simp
  | x :: y :: l, _, h => by
    have ih := fields_line (y :: l) (by simp) (fun z hz => h z (by simp only [List.mem_cons] at hz ⊢; right; exact hz))
    unfold fieldsL at ih ⊢
    rw [lineL_cons _ _ (by simp), fld_word x [] _ (h x (by simp)), ih]
    simp
end Go.Proofs.Ytcbakmojhicahaa.Hand
