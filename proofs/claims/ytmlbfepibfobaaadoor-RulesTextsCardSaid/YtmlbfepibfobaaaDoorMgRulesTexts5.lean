import Derived.Test.YtmlbfepibfobaaaDoorMgRulesTexts4
import Derived.Test.YtmlbfepibfobaaaDoorRows
import Derived.OpenShut
import Derived.SliceStrings
import Derived.ProofKit
import Derived.Test.YtmlbfepibfobaaaDoorMgRulesTexts0
import Derived.Test.YtmlbfepibfobaaaDoorMgRulesTexts1
import Derived.ChangeSame
import Derived.Lib.SmallJoins
import Derived.SizedLaws
section
namespace Go.Proofs.YtmlbfepibfobaaaDoor.Pure
open Go.RowKit Go.Proofs.YtmlbfepibfobaaaDoor.PRulesTexts Go.Proofs.YtmlbfepibfobaaaDoor.Hand Go.Proofs.YtmlbfepibfobaaaDoorW.PrintWords Go.Proofs.YtmlbfepibfobaaaDoorW.PrintLast
set_option linter.unusedVariables false
theorem cand_is (s : List UInt8) (r : Rl) (hW : ∀ r', readR (fieldsL s) = some r' → r' = r) : readR (fieldsL s) = if (rightR r && decide (lineR r = s)) = true then some r else none := by
  cases hq : readR (fieldsL s) with
  | some r' =>
    obtain rfl := hW r' hq
    obtain ⟨h1, h2⟩ := line_read hq
    rw [h1, decide_eq_true h2]
    rfl
  | none =>
    rw [if_neg]
    intro h
    simp only [Bool.and_eq_true, decide_eq_true_iff] at h
    have := read_line h.1
    rw [h.2, hq] at this
    cases this
theorem rule_is (s : ByteArray) (hs : s.size ≤ 65536) : ReadIs (readR (fieldsL (bl s))) (secateurref22_rule.f s) := by
  have key : ∀ r : Rl, readR (fieldsL (bl s)) = (if (rightR r && decide (lineR r = bl s)) = true then some r else none) → ReadIs (readR (fieldsL (bl s))) (some (r.1, r.2.1, lb r.2.2.1, lb r.2.2.2.1, lb r.2.2.2.2, rightR r && decide (lineR r = bl s))) := by
    intro r h
    rw [h]
    cases hq : (rightR r && decide (lineR r = bl s)) with
    | true =>
      rw [if_pos rfl]
      rfl
    | false =>
      rw [if_neg (by decide)]
      exact ⟨_, _, _, _, _, rfl⟩
  unfold secateurref22_rule.f
  rw [if_pos hs]
  obtain ⟨W, hW⟩ : ∃ W, fieldsL (bl s) = W := ⟨_, rfl⟩
  by_cases h3 : W.length = 3
  · match W, h3 with
    | [a, b, c], _ =>
      have h := key (decide (a = namesW), false, c, [], []) (cand_is (bl s) _ (fun r' h => by
        rw [hW] at h
        unfold readR at h
        dsimp only at h
        split at h
        · exact (Option.some.inj h).symm
        · cases h))
      rw [hW] at h ⊢
      exact h
  by_cases h5 : W.length = 5
  · match W, h5 with
    | [a, b, c, d, e], _ =>
      have h := key (decide (a = namesW), true, c, d, e) (cand_is (bl s) _ (fun r' h => by
        rw [hW] at h
        unfold readR at h
        dsimp only at h
        split at h
        · exact (Option.some.inj h).symm
        · cases h))
      rw [hW] at h ⊢
      exact h
  rw [hW]
  have hn : readR W = none := by
    unfold readR
    split
    · simp at h3
    · simp at h5
    · rfl
  have hr : ruleW (bl s) W = ((false, false, [], [], []), false) := by
    unfold ruleW
    split
    · simp at h3
    · simp at h5
    · rfl
  rw [hn, hr]
  exact ⟨_, _, _, _, _, rfl⟩
theorem parseD_loop (ls : List (List UInt8)) (hl : ∀ x ∈ ls, x.length ≤ 65536) (hn : ls.length ≤ 65536) : ∀ (d i k : Nat) (out : List Rl), ls.length - i = d → i ≤ ls.length → out.length ≤ i → d + 3 ≤ k →
    secateurref22_Parse.l0 k (ls.map lb) (out.map toR) (i : Int) = some (outP (rulesF i out (ls.drop i))) := by
  intro d
  induction d with
  | zero =>
    intro i k out hd hi ho hk
    obtain ⟨k, rfl⟩ : ∃ j, k = j + 1 := ⟨k - 1, by omega⟩
    rw [secateurref22_Parse.l0, if_neg (by rw [List.length_map]; omega), List.drop_of_length_le (by omega)]
    rfl
  | succ d ih =>
    intro i k out hd hi ho hk
    obtain ⟨k, rfl⟩ : ∃ j, k = (j + 1) + 1 := ⟨k - 2, by omega⟩
    have hlt : i < ls.length := by omega
    have hg : rdOf ByteArray.empty (ls.map lb) (i : Int) = lb ls[i] := by
      rw [rd_str0 _ i (by rw [List.length_map]; exact hlt), List.getElem_map]
    have hsz := hl ls[i] (List.getElem_mem hlt)
    have hr := rule_is (lb ls[i]) (by rw [lb_size]; exact hsz)
    rw [bl_lb] at hr
    rw [secateurref22_Parse.l0, if_pos (by rw [List.length_map]; omega), if_pos (by omega), hg, List.drop_eq_getElem_cons hlt, rulesF]
    cases hq : readR (fieldsL ls[i]) with
    | none =>
      rw [hq] at hr
      obtain ⟨a, b, c, e, f, hr⟩ := hr
      rw [hr, Option.bind_some]
      dsimp only
      rw [if_neg (show ¬ (false = true) by decide), wrap_one i (by omega)]
      rfl
    | some r =>
      rw [hq] at hr
      have hr' : secateurref22_rule.f (lb ls[i]) = some (r.1, r.2.1, lb r.2.2.1, lb r.2.2.2.1, lb r.2.2.2.2, true) := hr
      rw [hr', Option.bind_some]
      dsimp only
      rw [if_pos rfl, wrap_one i (by omega)]
      by_cases h64 : 64 ≤ i
      · rw [if_pos (by omega), if_pos h64]
        rfl
      · rw [if_neg (by omega), if_neg h64, if_pos (by rw [List.length_map]; omega)]
        have h := ih (i + 1) (k + 1) (out ++ [r]) (by omega) (by omega) (by rw [List.length_append]; simp; omega) (by omega)
        rw [List.map_append] at h
        exact h
theorem parseD_eq (s : ByteArray) (hs : s.size ≤ 9223372036854775807) (k : Nat) (hk : 65540 ≤ k) : secateurref22_Parse.f k s = some (outP (rulesL (bl s))) := by
  unfold secateurref22_Parse.f rulesL secateurref04_Lines.f word_Lines.f
  rw [if_pos hs, Option.bind_some]
  obtain ⟨m, e, f, hq⟩ : ∃ m e f, linesL (bl s) = (m, e, f) := ⟨_, _, _, rfl⟩
  rw [hq]
  dsimp only
  by_cases h0 : e = 0
  · subst h0
    obtain ⟨h1, h2⟩ := lines_small hq
    have h := parseD_loop m h1 h2 m.length 0 k [] rfl (Nat.zero_le _) (Nat.le_refl _) (by omega)
    rw [if_pos rfl, if_pos rfl]
    exact h
  · rw [if_neg h0, if_neg h0]
    rfl
theorem right_small {r : Rl} (h : rightR r = true) : r.2.2.1.length ≤ 64 ∧ r.2.2.2.1.length ≤ 64 ∧ r.2.2.2.2.length ≤ 64 := by
  obtain ⟨n, m, c, a, d⟩ := r
  unfold rightR at h
  simp only [Bool.and_eq_true] at h
  have hc := (globR_seen h.1).2.2.1
  cases m with
  | true =>
    have h2 := h.2
    simp only [if_true, Bool.and_eq_true] at h2
    exact ⟨hc, (globR_seen h2.1).2.2.1, (globR_seen h2.2).2.2.1⟩
  | false =>
    have h2 := h.2
    simp only [Bool.false_eq_true, if_false, decide_eq_true_iff] at h2
    refine ⟨hc, ?_, ?_⟩
    · show a.length ≤ 64
      rw [h2.1]
      simp
    · show d.length ≤ 64
      rw [h2.2]
      simp
theorem printD_loop (xs : List (S66)) (hn : xs.length ≤ 64) (hz : ∀ x ∈ xs, fitR x) : ∀ (d i k : Nat), xs.length - i = d → i ≤ xs.length → d + 3 ≤ k → ((xs.take i).map ofR).all rightR = true →
    secateurref22_Print.l0 k xs (lb (textL (((xs.take i).map ofR).map lineR))) (i : Int) = some (if ((xs.drop i).map ofR).all rightR = true then (lb (textL ((xs.map ofR).map lineR)), 0) else (⟨#[]⟩, 10)) := by
  intro d
  induction d with
  | zero =>
    intro i k hd hi hk hall
    obtain ⟨k, rfl⟩ : ∃ j, k = j + 1 := ⟨k - 1, by omega⟩
    rw [secateurref22_Print.l0, if_neg (by omega), List.drop_of_length_le (by omega), if_pos (by rfl), List.take_of_length_le (by omega)]
  | succ d ih =>
    intro i k hd hi hk hall
    obtain ⟨k, rfl⟩ : ∃ j, k = j + 1 := ⟨k - 1, by omega⟩
    have hlt : i < xs.length := by omega
    obtain ⟨h2, h3, h4⟩ := hz xs[i] (List.getElem_mem hlt)
    have hR : secateurref22_Right.f xs[i].f0 xs[i].f1 xs[i].f2 xs[i].f3 xs[i].f4 = some (rightR (xs[i].f0, xs[i].f1, bl xs[i].f2, bl xs[i].f3, bl xs[i].f4)) := ruleF_eq _ _ _ _ _ h2 h3 h4
    rw [secateurref22_Print.l0, if_pos (by omega), if_pos (by omega), rdR_get xs i hlt, hR, Option.bind_some, List.drop_eq_getElem_cons hlt, List.map_cons, List.all_cons]
    have hof : ofR xs[i] = (xs[i].f0, xs[i].f1, bl xs[i].f2, bl xs[i].f3, bl xs[i].f4) := rfl
    rw [hof]
    cases hr : rightR (xs[i].f0, xs[i].f1, bl xs[i].f2, bl xs[i].f3, bl xs[i].f4) with
    | false =>
      rw [if_neg (show ¬ (false = true) by decide)]
      simp
    | true =>
      obtain ⟨s1, s2, s3⟩ := right_small hr
      dsimp only at s1 s2 s3
      rw [bl_len] at s1 s2 s3
      have hL : secateurref22_line.f xs[i].f0 xs[i].f1 xs[i].f2 xs[i].f3 xs[i].f4 = some (lb (lineR (ofR xs[i]))) := by
        unfold secateurref22_line.f
        rw [if_pos ⟨by omega, by omega, by omega⟩]
        rfl
      have ht : (xs.take (i + 1)).map ofR = (xs.take i).map ofR ++ [ofR xs[i]] := by
        rw [List.take_add_one, List.getElem?_eq_getElem hlt, List.map_append]
        rfl
      have hall' : ((xs.take (i + 1)).map ofR).all rightR = true := by rw [ht, List.all_append, hall, hof]; simp [hr]
      have h := ih (i + 1) k (by omega) (by omega) (by omega) hall'
      have hcat : lb (textL (((xs.take (i + 1)).map ofR).map lineR)) = lb (textL (((xs.take i).map ofR).map lineR)) ++ (lb (lineR (ofR xs[i])) ++ (⟨#[10]⟩ : ByteArray)) := by
        rw [ht, List.map_append, textL_append, show (⟨#[10]⟩ : ByteArray) = lb [10] from rfl, cat_lb, cat_lb]
        congr 1
        simp [textL]
      have hw := word_small (r := ofR xs[i]) hr
      have hlen := textL_len (((xs.take (i + 1)).map ofR).map lineR) 325 (fun x hx => by
        obtain ⟨r, hr, rfl⟩ := List.mem_map.1 hx
        exact word_small (List.all_eq_true.1 hall' r hr))
      rw [List.length_map, List.length_map, List.length_take, ← lb_size, hcat] at hlen
      rw [if_pos rfl, hL, Option.bind_some, if_pos (by rw [lb_size]; unfold lineR; omega), if_pos (by rw [← ByteArray.size_append]; omega), wrap_one i (by omega), ← hcat]
      simp only [Bool.true_and]
      exact h
theorem printD_eq (xs : List (S66)) (hz : ∀ x ∈ xs, fitR x) (k : Nat) (hk : 70 ≤ k) : secateurref22_Print.f k xs = some (lb (printR (xs.map ofR)).1, (printR (xs.map ofR)).2) := by
  unfold secateurref22_Print.f printR
  rw [List.length_map]
  by_cases h : xs.length > 64
  · rw [if_pos (by omega), if_pos h]
    rfl
  · rw [if_neg (by omega), if_neg h]
    have hp := printD_loop xs (by omega) hz xs.length 0 k rfl (Nat.zero_le _) (by omega) rfl
    rw [List.drop_zero] at hp
    have hp' : secateurref22_Print.l0 k xs (⟨#[]⟩ : ByteArray) 0 = _ := hp
    rw [hp']
    by_cases ha : (xs.map ofR).all rightR = true
    · rw [if_pos ha, if_pos ha]
    · rw [if_neg ha, if_neg ha]
      rfl
def shortS (x : S66) : S66 := ⟨x.f0, x.f1, cutB x.f2, cutB x.f3, cutB x.f4⟩
theorem short_fit (xs : List (S66)) : fitB (xs.map shortS) = true := List.all_eq_true.2 fun x hx => by
  obtain ⟨y, _, rfl⟩ := List.mem_map.1 hx
  refine decide_eq_true ?_
  have h1 := cutB_size y.f2
  have h2 := cutB_size y.f3
  have h3 := cutB_size y.f4
  exact ⟨Nat.le_trans h1 (by decide), Nat.le_trans h2 (by decide), Nat.le_trans h3 (by decide)⟩
theorem texts_end (a0 : ByteArray) (ha : a0.size ≤ 9000) (l1 : List (S66)) (k : Nat) (hk : 65540 ≤ k) (i : Nat) (hi : l1.length ≤ i) : secateurlaw22_RulesTexts.l0 (k + 1) a0 l1 (l1.map shortS) (i : Int) = some true := by
  have hfit := short_fit l1
  rw [secateurlaw22_RulesTexts.l0, if_neg (by omega), parseD_eq a0 (by omega) k hk, printD_eq _ (fit_mem hfit) k (by omega)]
  unfold rules_Parse.f rules_Print.f secateurlaw22_live.f
  rw [if_pos (by omega), if_pos hfit]
  simp only [Option.bind_some]
  rw [if_pos trivial, if_pos (by simp)]
  have hlen : (outP (rulesL (bl a0))).1.length ≤ 4611686018427387903 := by
    unfold outP
    rw [List.length_map]
    obtain ⟨m, e, f, hq⟩ : ∃ m e f, rulesL (bl a0) = (m, e, f) := ⟨_, _, _, rfl⟩
    by_cases h0 : e = 0
    · subst h0
      have := (print_rules hq).1
      rw [hq]
      unfold printR at this
      split at this
      · simp at this
      · dsimp only
        omega
    · rw [hq, rules_none hq h0]
      exact Nat.zero_le _
  unfold secateurref22_Same.f
  rw [if_pos hlen, Option.bind_some, decide_eq_true rfl, if_pos rfl, if_pos trivial]
  simp
theorem texts_loop (a0 : ByteArray) (ha : a0.size ≤ 9000) (l1 : List (S66)) (hl : l1.length ≤ 80) : ∀ (d i k : Nat), l1.length - i = d → i ≤ l1.length → 65540 + d + 1 ≤ k → secateurlaw22_RulesTexts.l0 k a0 l1 ((l1.take i).map shortS) (i : Int) = some true := by
  intro d
  induction d with
  | zero =>
    intro i k hd hi hk
    obtain ⟨k, rfl⟩ : ∃ j, k = j + 1 := ⟨k - 1, by omega⟩
    rw [List.take_of_length_le (by omega)]
    exact texts_end a0 ha l1 k (by omega) i (by omega)
  | succ d ih =>
    intro i k hd hi hk
    obtain ⟨k, rfl⟩ : ∃ j, k = j + 1 := ⟨k - 1, by omega⟩
    have hlt : i < l1.length := by omega
    have ht : (l1.take (i + 1)).map shortS = (l1.take i).map shortS ++ [shortS l1[i]] := by
      rw [List.take_add_one, List.getElem?_eq_getElem hlt, List.map_append]
      rfl
    have hlen : ((l1.take i).map shortS).length = i := by rw [List.length_map, List.length_take]; omega
    have hlen2 : ((l1.take (i + 1)).map shortS).length = i + 1 := by rw [List.length_map, List.length_take]; omega
    have h := ih (i + 1) k (by omega) (by omega) (by omega)
    rw [secateurlaw22_RulesTexts.l0, if_pos (by omega), if_pos (by omega), rdR_get l1 i hlt]
    unfold secateurlaw22_short.f
    simp only [Option.bind_some]
    rw [if_pos (by rw [hlen]; omega)]
    have e1 : ((l1.take i).map shortS ++ [(⟨l1[i].f0, l1[i].f1, cutB l1[i].f2, cutB l1[i].f3, cutB l1[i].f4⟩ : S66)]) = (l1.take (i + 1)).map shortS := ht.symm
    rw [e1, if_pos (by rw [hlen2]; omega), rdR_get _ i (by omega)]
    have e2 : ((l1.take (i + 1)).map shortS)[i]'(by omega) = shortS l1[i] := by
      rw [List.getElem_map, List.getElem_take]
    rw [e2]
    have hz := fit_mem (short_fit [l1[i]]) (shortS l1[i]) (by simp)
    obtain ⟨z1, z2, z3⟩ := hz
    unfold secateurref22_Right.f
    rw [ruleF_eq _ _ _ _ _ z1 z2 z3, Option.bind_some, Option.bind_some, if_neg (by simp), wrap_one i (by omega)]
    exact h
theorem RulesTexts (a0 : ByteArray) (l1 : List (S66)) (hl : l1.length ≤ 140737488351232) (hs : ∀ x ∈ l1, x.f2.size ≤ 140737488351232 ∧ x.f3.size ≤ 140737488351232 ∧ x.f4.size ≤ 140737488351232) : ∃ k, secateurlaw22_RulesTexts.f k a0 l1 = some true := by
  refine ⟨70000, ?_⟩
  unfold secateurlaw22_RulesTexts.f
  by_cases h1 : a0.size > 9000
  · rw [if_pos (by omega), secateurlaw22_RulesTexts.j0, if_pos rfl]
    rfl
  · rw [if_neg (by omega)]
    by_cases h2 : l1.length > 80
    · rw [decide_eq_true (show (l1.length : Int) > 80 by omega), secateurlaw22_RulesTexts.j0, if_pos rfl]
      rfl
    · rw [decide_eq_false (show ¬ (l1.length : Int) > 80 by omega), secateurlaw22_RulesTexts.j0, if_neg (by decide)]
      have := texts_loop a0 (by omega) l1 (by omega) l1.length 0 69999 (by omega) (Nat.zero_le _) (by omega)
      rw [List.take_zero] at this
      exact this
end Go.Proofs.YtmlbfepibfobaaaDoor.Pure
end

section
namespace Go.Proofs.YtmlbfepibfobaaaDoor.Hand
open Go.ChangeShapes Go.WideShapes Go.ChangeAt Go.RowKit Go.Proofs.YtmlbfepibfobaaaDoorW.PrintWords Go.Proofs.YtmlbfepibfobaaaDoorW.PrintLast Go.Proofs.YtmlbfepibfobaaaDoorW.PrintMore
section
variable {H : Type} {enc : TypeId × Value → H} {P : Program} {w : World} {base : Nat} {spare : Nat → Bool} {held : Bool}
end
end Go.Proofs.YtmlbfepibfobaaaDoor.Hand
end

section
namespace Go.Proofs.YtmlbfepibfobaaaDoor.Hand
open Go.ChangeShapes Go.WideShapes Go.ChangeAt Go.Joins Go.Deep Go.RowKit Go.Proofs.YtmlbfepibfobaaaDoorW.PrintWords Go.Proofs.YtmlbfepibfobaaaDoorW.PrintLast Go.Proofs.YtmlbfepibfobaaaDoorW.PrintMore
theorem list_each {α : Type} {Q : Nat → α → Prop} : ∀ (n : Nat), (∀ i, i < n → ∃ a, Q i a) → ∃ l : List α, l.length = n ∧ ∀ i a, l[i]? = some a → Q i a
  | 0, _ => ⟨[], rfl, fun i a h => by simp at h⟩
  | n + 1, h => by
    obtain ⟨l, hl, hq⟩ := list_each n fun i hi => h i (by omega)
    obtain ⟨a, ha⟩ := h n (by omega)
    refine ⟨l ++ [a], by simp [hl], fun i b hb => ?_⟩
    by_cases hi : i < l.length
    · rw [List.getElem?_append_left hi] at hb
      exact hq i b hb
    · rw [List.getElem?_append_right (by omega)] at hb
      have h0 : i - l.length = 0 := by
        have := (List.getElem?_eq_some_iff.1 hb).1
        simp at this
        omega
      rw [h0] at hb
      simp at hb
      have : i = n := by omega
      rw [this, ← hb]
      exact ha
theorem add_add (a : Addr) (i j : Nat) : (a.add i).add j = a.add (i + j) := by
  unfold Addr.add
  by_cases hi : i = 0
  · subst hi; simp
  · by_cases hj : j = 0
    · subst hj; simp
    · rw [if_neg hi, if_neg hj, if_neg (by omega), Nat.add_assoc]
theorem cells_each {w : World} {base n : Nat} {a : Addr} {cs : List Value} (h : w.cells? base a n = some cs) : cs.length = n ∧ ∀ j u, cs[j]? = some u → w.cell? (a.add j) = some u := by
  unfold World.cells? at h
  split at h
  · have hl := mapM_some_length h
    rw [List.length_range] at hl
    refine ⟨hl, fun j u hu => ?_⟩
    have hj := (List.getElem?_eq_some_iff.1 hu).1
    have hg := mapM_some_get h j j (by rw [List.getElem?_range (by omega)])
    rw [hg, hu]
  · cases h
section
variable {H : Type} {enc : TypeId × Value → H} {P : Program} {w : World} {base : Nat} {spare : Nat → Bool} {held : Bool}
theorem weights_all {t : TypeId} : ∀ {l : List (DataW H)} {d : DataW H}, d ∈ l → ∀ n ∈ d.weights P t, n ∈ DataW.weightsAll P t l
  | a :: l, d, hd, n, hn => by
    simp only [DataW.weightsAll, List.mem_append]
    rcases List.mem_cons.1 hd with rfl | hd
    · exact .inl hn
    · exact .inr (weights_all hd n hn)
theorem open_rowsN {α : Type} (kd : Kd α) (Q : α → Prop) (sz : Nat) (hs : kd.sz = sz) {t e : TypeId} {v : Value} {d : DataW H} {ps : List MemPlace} {r : Reach} {b0 : Nat}
    (ht : P.underlying t = some (.slice e)) (hc : P.cellsOf e = sz) (hB : 1 ≤ P.bytesOf e)
    (mk : ∀ n cs x, DataW.trod enc P w base spare held n e cs = some x → (∀ m ∈ x.1.weights P e, m ≤ reachBytes) → ∃ a : α, kd.K w a cs ∧ Q a)
    (hw : ∀ n ∈ d.weights P t, n ≤ reachBytes)
    (hval : Value.okWide P w r b0 t v) (hd : DataW.Trod enc P w base spare held t v d ps) :
    ∃ (A : Option Addr) (cap : Nat) (l : List α), v = .slice A l.length cap ∧ l.length ≤ cap ∧ Kd.C kd w A l.length l ∧ l.length ≤ 140737488351232 ∧ ∀ x ∈ l, Q x := by
  obtain ⟨a, len, cap, rfl⟩ := okWide_slice ht hval
  obtain ⟨fuel, hf⟩ := hd
  rcases DataW.trod_slice ht hf with ⟨hcs, _⟩ | ⟨x, l, c, elems, rest, n, _, hcs, hx, hb, hl, hm, hlen, hel, _, _⟩
  · simp [Value.cells] at hcs
    obtain ⟨rfl, rfl, rfl⟩ := hcs
    exact ⟨none, 0, [], rfl, Nat.le_refl _, ⟨rfl, Nat.zero_le _, fun h => absurd h (Nat.lt_irrefl 0)⟩, Nat.zero_le _, by simp⟩
  · simp [Value.cells] at hcs
    obtain ⟨rfl, rfl, rfl⟩ := hcs
    obtain ⟨hx, _⟩ := Prod.mk.inj hx
    subst hx
    have hlw : len ≤ 140737488351232 := by
      have h1 := hw ((elems.map (·.1)).length * P.bytesOf e + (rest.map (·.1)).length * P.bytesOf e) (by simp [DataW.weights, ht, Nat.add_mul])
      rw [List.length_map, hlen] at h1
      have h2 : len * 1 ≤ len * P.bytesOf e := Nat.mul_le_mul_left _ hB
      have h3 : reachBytes = 140737488351232 := rfl
      omega
    have each : ∀ i, i < len → ∃ y : α, Q y ∧ ∃ cs : List Value, cs.length = sz ∧ kd.K w y cs ∧ ∀ j u, cs[j]? = some u → w.cell? (x.add (i * sz + j)) = some u := by
      intro i hi
      have h1 := hel i hi
      have hi2 : i < elems.length := by omega
      rw [List.getElem?_eq_getElem hi2, hc, Option.bind_eq_some_iff] at h1
      obtain ⟨cs, h2, h3⟩ := h1
      obtain ⟨y, h4, h5⟩ := mk _ _ _ h3 (fun m hm => hw m (by
        simp only [DataW.weights, ht, List.mem_cons, List.mem_append]
        exact .inr (.inl (weights_all (List.mem_map_of_mem (List.getElem_mem hi2)) m hm))))
      obtain ⟨h6, h7⟩ := cells_each h2
      refine ⟨y, h5, cs, h6, h4, fun j z hz => ?_⟩
      have h8 := h7 j z hz
      rw [add_add] at h8
      exact h8
    obtain ⟨ls, hls, hq⟩ := list_each len each
    have hmx : len ≤ 9223372036854775807 := by omega
    refine ⟨some x, cap, ls, by rw [hls], by rw [hls]; exact hl, ⟨rfl, by rw [hls]; exact hmx, fun _ => ⟨x, rfl, fun j p hp => ?_⟩⟩, by rw [hls]; exact hlw, fun y hy => ?_⟩
    · obtain ⟨_, cs, h1, h2, h3⟩ := hq j p hp
      exact ⟨cs, by rw [hs]; exact h1, h2, fun i u hu => by rw [hs]; exact h3 i u hu⟩
    · obtain ⟨i, hi⟩ := List.getElem?_of_mem hy
      exact (hq i y hi).1
theorem mk_rule {e : TypeId} {f0 f1 f2 f3 f4 : Field} (he : P.underlying e = some (.struct #[f0, f1, f2, f3, f4])) (hc : P.cellsOf e = 5)
    (o0 : f0.offset = 0) (o1 : f1.offset = 1) (o2 : f2.offset = 2) (o3 : f3.offset = 3) (o4 : f4.offset = 4)
    (z0 : P.cellsOf f0.type = 1) (z1 : P.cellsOf f1.type = 1) (z2 : P.cellsOf f2.type = 1) (z3 : P.cellsOf f3.type = 1) (z4 : P.cellsOf f4.type = 1)
    (h0 : P.underlying f0.type = some .bool) (h1 : P.underlying f1.type = some .bool) (h2 : P.underlying f2.type = some .string) (h3 : P.underlying f3.type = some .string) (h4 : P.underlying f4.type = some .string)
    (n : Nat) (cs : List Value) (x : DataW H × List MemPlace) (h : DataW.trod enc P w base spare held n e cs = some x) (hwt : ∀ m ∈ x.1.weights P e, m ≤ reachBytes) :
    ∃ a : S66, k66.K w a cs ∧ a.f2.size ≤ 140737488351232 ∧ a.f3.size ≤ 140737488351232 ∧ a.f4.size ≤ 140737488351232 := by
  obtain ⟨xs, m, _, hx, hl, hlen, hf⟩ := DataW.trod_struct he h
  rw [hc] at hl
  have g0 := hf 0 f0 rfl
  have g1 := hf 1 f1 rfl
  have g2 := hf 2 f2 rfl
  have g3 := hf 3 f3 rfl
  have g4 := hf 4 f4 rfl
  rw [o0, z0] at g0
  rw [o1, z1] at g1
  rw [o2, z2] at g2
  rw [o3, z3] at g3
  rw [o4, z4] at g4
  match cs, hl, xs, hlen with
  | [c0, c1, c2, c3, c4], _, [y0, y1, y2, y3, y4], _ =>
    obtain ⟨b0, hb0, e0⟩ := DataW.trod_bool h0 g0
    obtain ⟨b1, hb1, e1⟩ := DataW.trod_bool h1 g1
    obtain ⟨s2, hs2, e2, _⟩ := DataW.trod_string h2 g2
    obtain ⟨s3, hs3, e3, _⟩ := DataW.trod_string h3 g3
    obtain ⟨s4, hs4, e4, _⟩ := DataW.trod_string h4 g4
    simp at hb0 hb1 hs2 hs3 hs4
    subst hb0 hb1 hs2 hs3 hs4 e0 e1 e2 e3 e4 hx
    have w2 := hwt s2.data.toList.length (by simp [DataW.weights, he, DataW.weightsEach])
    have w3 := hwt s3.data.toList.length (by simp [DataW.weights, he, DataW.weightsEach])
    have w4 := hwt s4.data.toList.length (by simp [DataW.weights, he, DataW.weightsEach])
    rw [Array.length_toList] at w2 w3 w4
    exact ⟨⟨b0, b1, s2, s3, s4⟩, k66_mk w ⟨b0, b1, s2, s3, s4⟩, w2, w3, w4⟩
end
end Go.Proofs.YtmlbfepibfobaaaDoor.Hand
end
