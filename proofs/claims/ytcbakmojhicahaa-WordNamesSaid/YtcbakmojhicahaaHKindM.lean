namespace Go.Proofs.Ytcbakmojhicahaa.Hand
/-! ### types and their texts -/
section
variable (cls : List UInt8 → Bool)
abbrev Ty := Int × List UInt8
def rightT (t : Ty) : Bool := if t.1 = 3 ∨ t.1 = 5 then cls t.2 else decide (t.2 = [] ∧ 1 ≤ t.1 ∧ t.1 ≤ 5)
def textT (t : Ty) : List UInt8 :=
  if rightT cls t = true then (if t.1 = 1 then [86] else if t.1 = 2 then [73] else if t.1 = 3 then 76 :: (t.2 ++ [59]) else if t.1 = 4 then [91, 73] else 91 :: 76 :: (t.2 ++ [59])) else []
/-- What stands ahead of a byte's first place, and behind it. -/
def untilL (b : UInt8) : List UInt8 → Option (List UInt8 × List UInt8)
  | [] => none
  | x :: r => if x = b then some ([], r) else (untilL b r).map fun p => (x :: p.1, p.2)
def classT (k : Int) (r : List UInt8) : Option (Ty × List UInt8) := match untilL 59 r with
  | some (n, r') => if cls n = true then some ((k, n), r') else none
  | none => none
/-- A type that is no array, at a text's head. -/
def flatT (d : Int) : List UInt8 → Option (Ty × List UInt8)
  | [] => none
  | x :: r => if x = 86 then (if d = 0 then some ((1, []), r) else none) else if x = 73 then some ((2 + d, []), r) else if x = 76 then classT cls (3 + d) r else none
def oneT : List UInt8 → Option (Ty × List UInt8)
  | [] => none
  | x :: r => if x = 91 then flatT cls 2 r else flatT cls 0 (x :: r)
def parseT (l : List UInt8) : Ty × Int := match oneT cls l with
  | some (t, []) => (t, 0)
  | _ => ((0, []), 1)
theorem until_append {b : UInt8} : ∀ (n r : List UInt8), b ∉ n → untilL b (n ++ b :: r) = some (n, r)
  | [], r, _ => by simp [untilL]
  | x :: n, r, h => by
    simp only [List.mem_cons, not_or] at h
    rw [List.cons_append, untilL, if_neg (fun e => h.1 e.symm), until_append n r h.2]
    rfl
theorem until_some {b : UInt8} : ∀ (l n r : List UInt8), untilL b l = some (n, r) → l = n ++ b :: r ∧ b ∉ n
  | [], n, r, h => by simp [untilL] at h
  | x :: l, n, r, h => by
    unfold untilL at h
    split at h
    · rename_i e
      simp at h
      obtain ⟨rfl, rfl⟩ := h
      simp [e]
    · rename_i hx
      obtain ⟨⟨a, b'⟩, h1, h2⟩ := Option.map_eq_some_iff.1 h
      simp at h2
      obtain ⟨rfl, rfl⟩ := h2
      obtain ⟨h3, h4⟩ := until_some l a b' h1
      refine ⟨by rw [h3]; rfl, ?_⟩
      simp only [List.mem_cons, not_or]
      exact ⟨fun e => hx e.symm, h4⟩
theorem until_none {b : UInt8} : ∀ (l : List UInt8), untilL b l = none ↔ b ∉ l
  | [] => by simp [untilL]
  | x :: l => by
    unfold untilL
    by_cases h : x = b
    · simp [h]
    · rw [if_neg h, Option.map_eq_none_iff, until_none l]
      simp only [List.mem_cons, not_or]
      exact ⟨fun h2 => ⟨fun e => h e.symm, h2⟩, fun h2 => h2.2⟩
variable {cls} (hcls : ∀ n, cls n = true → 59 ∉ n)
include hcls
theorem classT_text (k : Int) (c r : List UInt8) (h : cls c = true) : classT cls k (c ++ 59 :: r) = some ((k, c), r) := by
  unfold classT
  rw [until_append c r (hcls c h)]
  simp [h]
omit hcls in
theorem right_cases {t : Ty} (h : rightT cls t = true) : (t.1 = 1 ∧ t.2 = []) ∨ (t.1 = 2 ∧ t.2 = []) ∨ (t.1 = 3 ∧ cls t.2 = true) ∨ (t.1 = 4 ∧ t.2 = []) ∨ (t.1 = 5 ∧ cls t.2 = true) := by
  unfold rightT at h
  split at h
  · rename_i e
    rcases e with e | e
    · exact .inr (.inr (.inl ⟨e, h⟩))
    · exact .inr (.inr (.inr (.inr ⟨e, h⟩)))
  · rename_i e
    have h := of_decide_eq_true h
    have : t.1 = 1 ∨ t.1 = 2 ∨ t.1 = 4 := by omega
    rcases this with e | e | e <;> simp [e, h.1]
theorem one_text {t : Ty} (h : rightT cls t = true) (r : List UInt8) : oneT cls (textT cls t ++ r) = some (t, r) := by
  obtain ⟨k, c⟩ := t
  unfold textT
  rw [if_pos h]
  rcases right_cases h with ⟨e1, e2⟩ | ⟨e1, e2⟩ | ⟨e1, e2⟩ | ⟨e1, e2⟩ | ⟨e1, e2⟩ <;> simp only at e1 e2
  · subst e1 e2; rfl
  · subst e1 e2; rfl
  · subst e1
    have := classT_text hcls 3 c r e2
    simp [oneT, flatT, this]
  · subst e1 e2; rfl
  · subst e1
    have := classT_text hcls 5 c r e2
    simp [oneT, flatT, this]
omit hcls in
theorem classT_back {k : Int} {l : List UInt8} {t : Ty} {r : List UInt8} (h : classT cls k l = some (t, r)) : t.1 = k ∧ cls t.2 = true ∧ l = t.2 ++ 59 :: r := by
  unfold classT at h
  split at h
  · rename_i n r' e
    split at h
    · rename_i hc
      simp at h
      obtain ⟨rfl, rfl⟩ := h
      exact ⟨rfl, hc, (until_some _ _ _ e).1⟩
    · cases h
  · cases h
omit hcls in
theorem flat_back0 {l : List UInt8} {t : Ty} {r : List UInt8} (h : flatT cls 0 l = some (t, r)) : rightT cls t = true ∧ l = textT cls t ++ r := by
  cases l with
  | nil => cases h
  | cons x l =>
    rw [flatT] at h
    by_cases e : x = 86
    · rw [if_pos e, if_pos rfl] at h
      simp at h
      obtain ⟨rfl, rfl⟩ := h
      subst e
      exact ⟨rfl, rfl⟩
    · rw [if_neg e] at h
      by_cases e : x = 73
      · rw [if_pos e] at h
        simp at h
        obtain ⟨rfl, rfl⟩ := h
        subst e
        exact ⟨rfl, rfl⟩
      · rw [if_neg e] at h
        by_cases e : x = 76
        · rw [if_pos e] at h
          subst e
          obtain ⟨h1, h2, h3⟩ := classT_back h
          obtain ⟨k, c⟩ := t
          simp only at h1 h2 h3
          subst h1
          have hr : rightT cls (3 + 0, c) = true := by unfold rightT; simp [h2]
          refine ⟨hr, ?_⟩
          unfold textT
          rw [if_pos hr, h3]
          simp
        · rw [if_neg e] at h
          cases h
omit hcls in
theorem flat_back2 {l : List UInt8} {t : Ty} {r : List UInt8} (h : flatT cls 2 l = some (t, r)) : rightT cls t = true ∧ 91 :: l = textT cls t ++ r := by
  cases l with
  | nil => cases h
  | cons x l =>
    rw [flatT] at h
    by_cases e : x = 86
    · rw [if_pos e, if_neg (by decide)] at h
      cases h
    · rw [if_neg e] at h
      by_cases e : x = 73
      · rw [if_pos e] at h
        simp at h
        obtain ⟨rfl, rfl⟩ := h
        subst e
        exact ⟨rfl, rfl⟩
      · rw [if_neg e] at h
        by_cases e : x = 76
        · rw [if_pos e] at h
          subst e
          obtain ⟨h1, h2, h3⟩ := classT_back h
          obtain ⟨k, c⟩ := t
          simp only at h1 h2 h3
          subst h1
          have hr : rightT cls (3 + 2, c) = true := by unfold rightT; simp [h2]
          refine ⟨hr, ?_⟩
          unfold textT
          rw [if_pos hr, h3]
          simp
        · rw [if_neg e] at h
          cases h
omit hcls in
theorem one_back {l : List UInt8} {t : Ty} {r : List UInt8} (h : oneT cls l = some (t, r)) : rightT cls t = true ∧ l = textT cls t ++ r := by
  cases l with
  | nil => cases h
  | cons x l =>
    rw [oneT] at h
    by_cases e : x = 91
    · rw [if_pos e] at h
      subst e
      exact flat_back2 h
    · rw [if_neg e] at h
      exact flat_back0 h
theorem parse_text {t : Ty} (h : rightT cls t = true) : parseT cls (textT cls t) = (t, 0) := by
  have := one_text hcls h []
  rw [List.append_nil] at this
  unfold parseT
  rw [this]
omit hcls in
theorem text_parse {s : List UInt8} {t : Ty} (h : parseT cls s = (t, 0)) : rightT cls t = true ∧ textT cls t = s := by
  unfold parseT at h
  split at h
  · rename_i t' e
    simp at h
    subst h
    obtain ⟨h1, h2⟩ := one_back e
    rw [List.append_nil] at h2
    exact ⟨h1, h2.symm⟩
  · simp at h

/-! ### descriptors -/
variable (cls)
def paramT (t : Ty) : Bool := rightT cls t && decide (t.1 ≠ 1)
def descText (ret : Ty) (ps : List Ty) : List UInt8 := 40 :: (ps.flatMap (textT cls) ++ 41 :: textT cls ret)
def descD (ret : Ty) (ps : List Ty) : List UInt8 × Int :=
  if rightT cls ret = true ∧ ps.all (paramT cls) = true then (if ps.length > 8 then ([], 3) else if (descText cls ret ps).length > 64 then ([], 3) else (descText cls ret ps, 0)) else ([], 1)
def typesF : Nat → List UInt8 → Option (List Ty × List UInt8)
  | 0, _ => none
  | f + 1, l => if l.head? = some 41 then some ([], l.tail) else match oneT cls l with
    | some (t, r) => if t.1 = 1 then none else (typesF f r).map fun p => (t :: p.1, p.2)
    | none => none
def splitD (l : List UInt8) : List Ty × Ty × Int :=
  if l.length > 64 then ([], (0, []), 3) else if l.head? = some 40 then (match typesF cls 65 l.tail with
    | some (ps, r) => (match oneT cls r with
      | some (t, []) => if ps.length ≤ 8 then (ps, t, 0) else ([], (0, []), 3)
      | _ => ([], (0, []), 1))
    | none => ([], (0, []), 1)) else ([], (0, []), 1)
variable {cls}
omit hcls in
theorem text_ne {t : Ty} (h : rightT cls t = true) : ∃ x r, textT cls t = x :: r ∧ x ≠ 41 := by
  unfold textT
  rw [if_pos h]
  split
  · exact ⟨_, _, rfl, by decide⟩
  · split
    · exact ⟨_, _, rfl, by decide⟩
    · split
      · exact ⟨_, _, rfl, by decide⟩
      · split
        · exact ⟨_, _, rfl, by decide⟩
        · exact ⟨_, _, rfl, by decide⟩
theorem types_text : ∀ (ps : List Ty) (f : Nat) (r : List UInt8), ps.all (paramT cls) = true → ps.length < f → typesF cls f (ps.flatMap (textT cls) ++ 41 :: r) = some (ps, r)
  | [], f, r, _, hf => by
    obtain ⟨f, rfl⟩ : ∃ g, f = g + 1 := ⟨f - 1, by simp at hf; omega⟩
    simp [typesF]
  | t :: ps, f, r, h, hf => by
    obtain ⟨f, rfl⟩ : ∃ g, f = g + 1 := ⟨f - 1, by simp at hf; omega⟩
    simp only [List.all_cons, Bool.and_eq_true] at h
    have h1 := h.1
    unfold paramT at h1
    simp only [Bool.and_eq_true, decide_eq_true_iff] at h1
    have ih := types_text ps f r h.2 (by simp at hf; omega)
    obtain ⟨x, q, hx, hx2⟩ := text_ne h1.1
    have ho := one_text hcls h1.1 (ps.flatMap (textT cls) ++ 41 :: r)
    rw [List.flatMap_cons, List.append_assoc, typesF, if_neg (by rw [hx]; simpa using hx2), ho]
    simp only
    rw [if_neg h1.2, ih]
    rfl
omit hcls in
theorem types_back : ∀ (f : Nat) (l : List UInt8) (ps : List Ty) (r : List UInt8), typesF cls f l = some (ps, r) → l = ps.flatMap (textT cls) ++ 41 :: r ∧ ps.all (paramT cls) = true
  | 0, _, _, _, h => by cases h
  | f + 1, l, ps, r, h => by
    unfold typesF at h
    split at h
    · rename_i hl
      simp at h
      obtain ⟨rfl, rfl⟩ := h
      cases l with
      | nil => cases hl
      | cons x l => simp at hl; simp [hl]
    · split at h
      · rename_i t r' e
        split at h
        · cases h
        · rename_i ht
          obtain ⟨⟨ps', r2⟩, h1, h2⟩ := Option.map_eq_some_iff.1 h
          simp at h2
          obtain ⟨rfl, rfl⟩ := h2
          obtain ⟨h3, h4⟩ := types_back f r' ps' r2 h1
          obtain ⟨h5, h6⟩ := one_back e
          refine ⟨by rw [h6, h3]; simp, ?_⟩
          rw [List.all_cons, h4]
          unfold paramT
          simp [h5, ht]
      · cases h
theorem split_desc {ret : Ty} {ps : List Ty} {d : List UInt8} (h : descD cls ret ps = (d, 0)) : splitD cls d = (ps, ret, 0) := by
  unfold descD at h
  split at h
  · rename_i hr
    split at h
    · simp at h
    · split at h
      · simp at h
      · rename_i h1 h2
        simp at h
        subst h
        unfold splitD
        rw [if_neg h2, if_pos (by rfl)]
        have ht := types_text hcls ps 65 (textT cls ret) hr.2 (by omega)
        have ho := one_text hcls hr.1 []
        rw [List.append_nil] at ho
        unfold descText
        rw [List.tail_cons, ht]
        simp only
        rw [ho]
        simp only
        rw [if_pos (by omega)]
  · simp at h
omit hcls in
theorem desc_split {d : List UInt8} {ret : Ty} {ps : List Ty} (h : splitD cls d = (ps, ret, 0)) : descD cls ret ps = (d, 0) := by
  unfold splitD at h
  split at h
  · simp at h
  · rename_i hl
    split at h
    · rename_i hh
      split at h
      · rename_i ps' r e
        split at h
        · rename_i t e2
          split at h
          · rename_i h8
            simp at h
            obtain ⟨rfl, rfl⟩ := h
            obtain ⟨h1, h2⟩ := types_back _ _ _ _ e
            obtain ⟨h3, h4⟩ := one_back e2
            rw [List.append_nil] at h4
            have hd : d = descText cls t ps' := by
              cases d with
              | nil => cases hh
              | cons x d =>
                simp at hh h1
                unfold descText
                rw [hh, h1, h4]
            unfold descD
            rw [if_pos ⟨h3, h2⟩, if_neg (by omega), ← hd, if_neg hl]
          · simp at h
        · simp at h
      · simp at h
    · simp at h

/-! ### other names -/
def newOf (l : List (List UInt8 × List UInt8)) (c : List UInt8) : List UInt8 := match l.find? (fun p => p.1 = c) with
  | some p => p.2
  | none => c
def renT (l : List (List UInt8 × List UInt8)) (t : Ty) : Ty := if t.1 = 3 ∨ t.1 = 5 then (t.1, newOf l t.2) else t
variable (cls)
def renD (d : List UInt8) (l : List (List UInt8 × List UInt8)) : List UInt8 := match splitD cls d with
  | (ps, r, e) => if e = 0 then (descD cls (renT l r) (ps.map (renT l))).1 else []
def classesD (d : List UInt8) : List (List UInt8) := match splitD cls d with
  | (ps, r, e) => if e = 0 then ((ps ++ [r]).map (·.2)).filter (fun c => !c.isEmpty) else []
variable {cls}
omit hcls in
/-- Renamed, and renamed back. -/
theorem ren_back {l b : List (List UInt8 × List UInt8)} {t : Ty} (hb : ∀ p ∈ l, newOf b p.2 = p.1) (ht : t.2 ≠ [] → ∃ p ∈ l, p.1 = t.2) (hr : rightT cls t = true) (he : cls [] = false) : renT b (renT l t) = t := by
  unfold renT
  by_cases h : t.1 = 3 ∨ t.1 = 5
  · rw [if_pos h]
    simp only
    rw [if_pos h]
    have hn : t.2 ≠ [] := by
      intro e
      unfold rightT at hr
      rw [if_pos h, e, he] at hr
      cases hr
    obtain ⟨p, hp, hp2⟩ := ht hn
    obtain ⟨q, hq⟩ : ∃ q, l.find? (fun p => p.1 = t.2) = some q := by
      cases h2 : l.find? (fun p => p.1 = t.2) with
      | some q => exact ⟨q, rfl⟩
      | none => have := List.find?_eq_none.1 h2 p hp; simp [hp2] at this
    have hq1 := List.find?_some hq
    have hq2 := List.mem_of_find?_eq_some hq
    unfold newOf at hb ⊢
    rw [hq]
    simp only
    have := hb q hq2
    have e3 : q.1 = t.2 := by simpa using hq1
    cases h4 : b.find? (fun p => p.1 = q.2) with
    | some z => rw [h4] at this; simp only at this ⊢; rw [this, e3]
    | none => rw [h4] at this; simp only at this ⊢; rw [this, e3]
  · rw [if_neg h, if_neg h]
omit hcls in
theorem renD_ne {d : List UInt8} {l : List (List UInt8 × List UInt8)} {ps : List Ty} {r : Ty} (hs : splitD cls d = (ps, r, 0)) (hne : renD cls d l ≠ []) : descD cls (renT l r) (ps.map (renT l)) = (renD cls d l, 0) := by
  unfold renD at hne ⊢
  rw [hs] at hne ⊢
  simp only [if_true] at hne ⊢
  unfold descD at hne ⊢
  split at hne
  · rename_i h1
    split at hne
    · simp at hne
    · rename_i h2
      split at hne
      · simp at hne
      · rename_i h3
        rw [if_pos h1, if_neg h2, if_neg h3]
  · simp at hne
omit hcls in
theorem types_right {d : List UInt8} {ps : List Ty} {r : Ty} (hs : splitD cls d = (ps, r, 0)) : ∀ t ∈ ps ++ [r], rightT cls t = true := by
  have h := desc_split hs
  unfold descD at h
  split at h
  · rename_i h1
    intro t ht
    simp only [List.mem_append, List.mem_singleton] at ht
    rcases ht with ht | ht
    · have := List.all_eq_true.1 h1.2 t ht
      unfold paramT at this
      simp only [Bool.and_eq_true] at this
      exact this.1
    · rw [ht]; exact h1.1
  · simp at h
omit hcls in
theorem ways_back (hcls : ∀ n, cls n = true → 59 ∉ n) (he : cls [] = false) {d : List UInt8} {l b : List (List UInt8 × List UInt8)} {ps : List Ty} {r : Ty} (hs : splitD cls d = (ps, r, 0)) (hne : renD cls d l ≠ [])
    (hb : ∀ p ∈ l, newOf b p.2 = p.1) (hc : ∀ c ∈ classesD cls d, ∃ p ∈ l, p.1 = c) : renD cls (renD cls d l) b = d := by
  have h1 := split_desc hcls (renD_ne hs hne)
  have hr := types_right hs
  have hall : ∀ t ∈ ps ++ [r], renT b (renT l t) = t := by
    intro t ht
    refine ren_back hb (fun hn => hc t.2 ?_) (hr t ht) he
    unfold classesD
    rw [hs]
    simp only [if_true, List.mem_filter, List.mem_map]
    exact ⟨⟨t, ht, rfl⟩, by simp [hn]⟩
  unfold renD
  unfold renD at h1
  rw [h1]
  simp only [if_true, List.map_map]
  rw [hall r (by simp), show ps.map (renT b ∘ renT l) = ps from by
    have : ps.map (renT b ∘ renT l) = ps.map id := List.map_congr_left fun t ht => by simpa using hall t (by simp [ht])
    rw [this, List.map_id], desc_split hs]
end
end Go.Proofs.Ytcbakmojhicahaa.Hand
