import Derived.Test.YtmlbfepibfobaaaDoorMgRulesMatch0
import Derived.Test.YtmlbfepibfobaaaDoorRows
import Derived.OpenShut
import Derived.SliceStrings
import Derived.ProofKit
import Derived.Test.YtmlbfepibfobaaaDoorWMore
import Derived.Test.YtmlbfepibfobaaaDoorMgRx0
import Derived.ChangeSame
import Derived.Lib.SmallJoins
import Derived.SizedLaws
section
namespace Go.Proofs.YtmlbfepibfobaaaDoor.Hand
open Go.RowKit Go.Proofs.YtmlbfepibfobaaaDoorW.PrintWords Go.Proofs.YtmlbfepibfobaaaDoorW.PrintLast Go.Proofs.YtmlbfepibfobaaaDoorW.PrintMore
set_option linter.unusedVariables false
set_option linter.unusedSimpArgs false

theorem rule_eq (n m n' m' : Bool) (c a d c' a' d' : ByteArray) (w : World) : (binOp .eql 66 (.agg #[.bool n, .bool m, .string c, .string a, .string d]) (.agg #[.bool n', .bool m', .string c', .string a', .string d'])).run Tryd.prog w = .ok (.bool ((n == n') && ((m == m') && ((c.toList == c'.toList) && ((a.toList == a'.toList) && (d.toList == d'.toList)))))) w := by
  have h : (Op.equalIn 10000 66 (.agg #[.bool n, .bool m, .string c, .string a, .string d]) (.agg #[.bool n', .bool m', .string c', .string a', .string d'])).run Tryd.prog w = .ok ((n == n') && ((m == m') && ((c.toList == c'.toList) && ((a.toList == a'.toList) && (d.toList == d'.toList))))) w := by
    refine eqA_of (d := 9999) Tryd.underlying66 (by kernel_rfl) ?_
    refine eqf_cons rfl (run_part_plain w (by kernel_rfl) rfl) (run_part_plain w (by kernel_rfl) rfl) (run_equalIn_bool w 9998 4 n n' Tryd.underlying4) ?_
    refine eqf_cons rfl (run_part_plain w (by kernel_rfl) rfl) (run_part_plain w (by kernel_rfl) rfl) (run_equalIn_bool w 9998 4 m m' Tryd.underlying4) ?_
    refine eqf_cons rfl (run_part_plain w (by kernel_rfl) rfl) (run_part_plain w (by kernel_rfl) rfl) (run_equalIn_string w 9998 9 c c' Tryd.underlying9) ?_
    refine eqf_cons rfl (run_part_plain w (by kernel_rfl) rfl) (run_part_plain w (by kernel_rfl) rfl) (run_equalIn_string w 9998 9 a a' Tryd.underlying9) ?_
    exact eqf_last rfl (run_part_plain w (by kernel_rfl) rfl) (run_part_plain w (by kernel_rfl) rfl) (run_equalIn_string w 9998 9 d d' Tryd.underlying9)
  rw [run_eql_struct, h]
  rfl
set_option maxHeartbeats 8000000 in
set_option maxRecDepth 100000 in
theorem RulesMatch_go (n m : Bool) (c a d x y z : ByteArray) (w : World) (hM : MaxL w) :
    Calls Tryd.prog 13 #[.agg #[.bool n, .bool m, .string c, .string a, .string d], .agg #[.string x, .string y, .string z]] w fun e w' => e = .returned (.bool true) ∧ Below w.heap.size w w' := by
  have HM := Aside0.mk hM
  clear hM
  go_enter Tryd.func13, Tryd.ntmps13
  go_wp2_with fail
  refine (law22_short n m c a d _).mono ?_
  rintro e w1 ⟨rfl, hB1⟩
  have hr1 : w1.heap[w.heap.size]? = some (Obj.cells #[.bool n, .bool m, .string c, .string a, .string d] 66 (0, 0)) := (hB1.block _ (by simp; omega)).trans (blk_alloc (World.alloc_heap_new w _) _)
  have hs1 : w1.heap[w.heap.size + 1]? = some (Obj.cells #[.string x, .string y, .string z] 76 (0, 0)) := (hB1.block _ (by simp)).trans (by
    have := World.alloc_heap_new (w.alloc (Obj.cells #[.bool n, .bool m, .string c, .string a, .string d] 66 (0, 0))) (Obj.cells #[.string x, .string y, .string z] 76)
    rw [show (w.alloc (Obj.cells #[.bool n, .bool m, .string c, .string a, .string d] 66 (0, 0))).heap.size = w.heap.size + 1 by simp] at this
    exact this)
  obtain ⟨c0, c1, c2, c3, c4⟩ := cells5 hr1
  have f0 := blk_frozen hr1 0
  have f1 := blk_frozen hr1 1
  have f2 := blk_frozen hr1 2
  have f3 := blk_frozen hr1 3
  have f4 := blk_frozen hr1 4
  have b1 := blk_put (cs' := #[.bool n, .bool m, .string c, .string a, .string d]) hr1 0 (.bool n) rfl
  have b2 := blk_put (cs' := #[.bool n, .bool m, .string c, .string a, .string d]) b1 1 (.bool m) rfl
  have b3 := blk_put (cs' := #[.bool n, .bool m, .string (cutB c), .string a, .string d]) b2 2 (.string (cutB c)) rfl
  have b4 := blk_put (cs' := #[.bool n, .bool m, .string (cutB c), .string (cutB a), .string d]) b3 3 (.string (cutB a)) rfl
  have b5 := blk_put (cs' := #[.bool n, .bool m, .string (cutB c), .string (cutB a), .string (cutB d)]) b4 4 (.string (cutB d)) rfl
  have s1 := blk_far (p := ⟨w.heap.size, 0, none⟩) hs1 (by simp) (.bool n)
  have s2 := blk_far (p := ⟨w.heap.size, 1, none⟩) s1 (by simp) (.bool m)
  have s3 := blk_far (p := ⟨w.heap.size, 2, none⟩) s2 (by simp) (.string (cutB c))
  have s4 := blk_far (p := ⟨w.heap.size, 3, none⟩) s3 (by simp) (.string (cutB a))
  have s5 := blk_far (p := ⟨w.heap.size, 4, none⟩) s4 (by simp) (.string (cutB d))
  have hB2 := below_step (below_alloc (below_alloc (Below.refl w.heap.size w) _) _) hB1
  have hH : RM w _ w.heap.size (w.heap.size + 1) _ _ := ⟨b5, s5, below_set (below_set (below_set (below_set (below_set hB2 (Nat.le_refl _)) (Nat.le_refl _)) (Nat.le_refl _)) (Nat.le_refl _)) (Nat.le_refl _)⟩
  clear b1 b2 b3 b4 b5 s1 s2 s3 s4 s5 hB2 hr1 hs1 hB1
  go_wp2_with fail
  clear c0 c1 c2 c3 c4 f0 f1 f2 f3 f4
  replace hH := hH.below (below_drew1 (Below.refl _ _))
  go_region_held3 (fun w' => w'.cell? ⟨w.heap.size + 1, 0, none⟩ = some (.string x) ∧ w'.cell? ⟨w.heap.size + 1, 1, none⟩ = some (.string y) ∧ w'.cell? ⟨w.heap.size + 1, 2, none⟩ = some (.string z)) (exact cells3 hH.s) (first | (go_at_call 57; refine (law22_cut _ _).mono ?_; rintro e w2 ⟨rfl, hd2⟩; replace hH := hH.below hd2.below))
  go_wp2_with fail
  have z0 := cutB_size c; have z1 := cutB_size a; have z2 := cutB_size d; have z3 := cutB_size x; have z4 := cutB_size y; have z5 := cutB_size z
  obtain ⟨v1, hv1⟩ : ∃ v, v = classB (n, m, bl (cutB c), bl (cutB a), bl (cutB d)) (bl (cutB x)) := ⟨_, rfl⟩
  obtain ⟨v2, hv2⟩ : ∃ v, v = memberB (n, m, bl (cutB c), bl (cutB a), bl (cutB d)) (bl (cutB x)) (bl (cutB y)) (bl (cutB z)) := ⟨_, rfl⟩
  have K1 := Aside0.mk (fun W => rules_Class.calls n m (cutB c) (cutB a) (cutB d) (cutB x) v1 W (by unfold rules_Class.f; rw [if_pos ⟨by omega, by omega, by omega, by omega⟩, hv1]))
  have K2 := Aside0.mk (fun W => Q19.secateurref22_Class.calls 12000000000000 n m (cutB c) (cutB a) (cutB d) (cutB x) v1 W (by rw [classD_eq n m _ _ _ _ (by omega) (by omega) (by omega) (by omega) _ (by omega), hv1]))
  have K3 := Aside0.mk (fun W => rules_Member.calls n m (cutB c) (cutB a) (cutB d) (cutB x) (cutB y) (cutB z) v2 W (by unfold rules_Member.f; rw [if_pos ⟨by omega, by omega, by omega, by omega, by omega, by omega⟩, hv2]))
  have K4 := Aside0.mk (fun W => Q19.secateurref22_Member.calls 12000000000000 n m (cutB c) (cutB a) (cutB d) (cutB x) (cutB y) (cutB z) v2 W (by rw [memberD_eq n m _ _ _ _ _ _ (by omega) (by omega) (by omega) (by omega) (by omega) (by omega) _ (by omega), hv2]))
  have K5 := Aside0.mk (fun W => Q19.rules_ExactMember.calls (cutB x) (cutB y) (cutB z) n n true (cutB x) (cutB y) (cutB z) W rfl)
  have hq : ∀ W : World, (binOp .eql 66 (.agg #[.bool n, .bool true, .string (cutB x), .string (cutB y), .string (cutB z)]) (.agg #[.bool n, .bool true, .string (cutB x), .string (cutB y), .string (cutB z)])).run Tryd.prog W = .ok (.bool true) W := fun W => by rw [rule_eq]; simp
  clear hv1 hv2 z0 z1 z2 z3 z4 z5
  replace hH := hH.below (below_drew1 (Below.refl _ _))
  go_region_held3 (fun w' => w'.cell? ⟨w.heap.size, 0, none⟩ = some (.bool n) ∧ w'.cell? ⟨w.heap.size, 1, none⟩ = some (.bool m) ∧ w'.cell? ⟨w.heap.size, 2, none⟩ = some (.string (cutB c)) ∧ w'.cell? ⟨w.heap.size, 3, none⟩ = some (.string (cutB a)) ∧ w'.cell? ⟨w.heap.size, 4, none⟩ = some (.string (cutB d))) (exact cells5 hH.r) (first
    | (go_at_call 48; refine (secateurlaw22_live.calls true _ (max_below HM.out hH.bel) rfl).mono ?_; rintro e w2 ⟨rfl, hd2⟩; replace hH := hH.below hd2)
    | (go_at_call 58; refine (K1.out _).mono ?_; rintro e w2 ⟨rfl, hd2⟩; replace hH := hH.below hd2)
    | (go_at_call 59; refine (K2.out _).mono ?_; rintro e w2 ⟨rfl, hd2⟩; replace hH := hH.below hd2)
    | (go_at_call 60; refine (K3.out _).mono ?_; rintro e w2 ⟨rfl, hd2⟩; replace hH := hH.below hd2)
    | (go_at_call 61; refine (K4.out _).mono ?_; rintro e w2 ⟨rfl, hd2⟩; replace hH := hH.below hd2)
    | (go_at_call 62; refine (K5.out _).mono ?_; rintro e w2 ⟨rfl, hd2⟩; replace hH := hH.below hd2))
  go_wp2
  exact bodyPost_ret (results_tmp rfl _ _ _) rfl ⟨by simp, hH.bel⟩
end Go.Proofs.YtmlbfepibfobaaaDoor.Hand
end

section
/- Openings of arguments that are slices of strings. -/
namespace Go.Proofs.YtmlbfepibfobaaaDoor.Hand
open Go.ChangeShapes Go.WideShapes Go.ChangeAt Go.RowKit Go.Proofs.YtmlbfepibfobaaaDoorW.PrintWords Go.Proofs.YtmlbfepibfobaaaDoorW.PrintLast Go.Proofs.YtmlbfepibfobaaaDoorW.PrintMore
section
variable {H : Type} {enc : TypeId × Value → H} {P : Program} {w : World} {base : Nat} {spare : Nat → Bool} {held : Bool}
theorem open_strRow {r : Reach} {b0 : Nat} {t e : TypeId} {v : Value} {d : DataW H} {ps : List MemPlace} (ht : P.underlying t = some (.slice e)) (he : P.underlying e = some .string) (hc : P.cellsOf e = 1)
    (hval : Value.okWide P w r b0 t v) (hd : DataW.Trod enc P w base spare held t v d ps) :
    ∃ (A : Option Addr) (cap : Nat) (l : List ByteArray), v = .slice A l.length cap ∧ l.length ≤ cap ∧ Kd.C Kd.string w A l.length l ∧ l.length ≤ 9223372036854775807 := by
  obtain ⟨a, len, cap, rfl⟩ := okWide_slice ht hval
  obtain ⟨fuel, hf⟩ := hd
  rcases open_strings ht he hc hf with ⟨hcs, _⟩ | ⟨x, l, c, ss, hcs, _, hl, hm, hz, _, hcell, _⟩
  · simp [Value.cells] at hcs
    obtain ⟨rfl, rfl, rfl⟩ := hcs
    exact ⟨none, 0, [], rfl, Nat.le_refl _, Kd.C_nil _ _, by decide⟩
  · simp [Value.cells] at hcs
    obtain ⟨rfl, rfl, rfl⟩ := hcs
    have hls : len ≤ ss.length := by rw [hz]; split <;> omega
    have hlen : (ss.take len).length = len := by rw [List.length_take]; omega
    have hmx : len ≤ 9223372036854775807 := by unfold maxLen at hm; omega
    refine ⟨some x, cap, ss.take len, by rw [hlen], by rw [hlen]; exact hl, ?_, by rw [hlen]; exact hmx⟩
    rw [hlen]
    refine Kd.C_of_reads (d := ByteArray.empty) (h1 := fun _ => rfl) ⟨hlen, hmx, fun _ => ⟨x, rfl, fun j hj => ?_⟩⟩
    rw [hcell j (by omega)]
    congr 2
    simp [List.getD, hj]
end
end Go.Proofs.YtmlbfepibfobaaaDoor.Hand
end

section
/- Openings of arguments that are slices of rules (structs of five cells). -/
namespace Go.Proofs.YtmlbfepibfobaaaDoor.Hand
open Go.ChangeShapes Go.WideShapes Go.ChangeAt Go.Joins Go.Deep Go.RowKit Go.Proofs.YtmlbfepibfobaaaDoorW.PrintWords Go.Proofs.YtmlbfepibfobaaaDoorW.PrintLast Go.Proofs.YtmlbfepibfobaaaDoorW.PrintMore
theorem list_each {α : Type} {Q : Nat → α → Prop} : ∀ (n : Nat), (∀ i, i < n → ∃ a, Q i a) → ∃ l : List α, l.length = n ∧ ∀ i a, l[i]? = some a → Q i a
  | 0, _ => ⟨[], rfl, fun i a h => by simp at h⟩
  | n + 1, h => by
    obtain ⟨l, hl, hq⟩ := list_each n fun i hi => h i (by omega)
    obtain ⟨a, ha⟩ := h n (by omega)
    refine ⟨l ++ [a], by simp [hl], fun i b hb => ?_⟩
    by_cases hi : i < l.length
    · rw [List.getElem?_append_left hi] at hb
      exact hq i b hb
    · rw [List.getElem?_append_right (by omega)] at hb
      have h0 : i - l.length = 0 := by
        have := (List.getElem?_eq_some_iff.1 hb).1
        simp at this
        omega
      rw [h0] at hb
      simp at hb
      have : i = n := by omega
      rw [this, ← hb]
      exact ha
theorem add_add (a : Addr) (i j : Nat) : (a.add i).add j = a.add (i + j) := by
  unfold Addr.add
  by_cases hi : i = 0
  · subst hi; simp
  · by_cases hj : j = 0
    · subst hj; simp
    · rw [if_neg hi, if_neg hj, if_neg (by omega), Nat.add_assoc]
theorem cells_each {w : World} {base n : Nat} {a : Addr} {cs : List Value} (h : w.cells? base a n = some cs) : cs.length = n ∧ ∀ j u, cs[j]? = some u → w.cell? (a.add j) = some u := by
  unfold World.cells? at h
  split at h
  · have hl := mapM_some_length h
    rw [List.length_range] at hl
    refine ⟨hl, fun j u hu => ?_⟩
    have hj := (List.getElem?_eq_some_iff.1 hu).1
    have hg := mapM_some_get h j j (by rw [List.getElem?_range (by omega)])
    rw [hg, hu]
  · cases h
section
variable {H : Type} {enc : TypeId × Value → H} {P : Program} {w : World} {base : Nat} {spare : Nat → Bool} {held : Bool}
theorem weights_all {t : TypeId} : ∀ {l : List (DataW H)} {d : DataW H}, d ∈ l → ∀ n ∈ d.weights P t, n ∈ DataW.weightsAll P t l
  | a :: l, d, hd, n, hn => by
    simp only [DataW.weightsAll, List.mem_append]
    rcases List.mem_cons.1 hd with rfl | hd
    · exact .inl hn
    · exact .inr (weights_all hd n hn)
theorem open_rowsN {α : Type} (kd : Kd α) (Q : α → Prop) (sz : Nat) (hs : kd.sz = sz) {t e : TypeId} {v : Value} {d : DataW H} {ps : List MemPlace} {r : Reach} {b0 : Nat}
    (ht : P.underlying t = some (.slice e)) (hc : P.cellsOf e = sz) (hB : 1 ≤ P.bytesOf e)
    (mk : ∀ n cs x, DataW.trod enc P w base spare held n e cs = some x → (∀ m ∈ x.1.weights P e, m ≤ reachBytes) → ∃ a : α, kd.K w a cs ∧ Q a)
    (hw : ∀ n ∈ d.weights P t, n ≤ reachBytes)
    (hval : Value.okWide P w r b0 t v) (hd : DataW.Trod enc P w base spare held t v d ps) :
    ∃ (A : Option Addr) (cap : Nat) (l : List α), v = .slice A l.length cap ∧ l.length ≤ cap ∧ Kd.C kd w A l.length l ∧ l.length ≤ 140737488351232 ∧ ∀ x ∈ l, Q x := by
  obtain ⟨a, len, cap, rfl⟩ := okWide_slice ht hval
  obtain ⟨fuel, hf⟩ := hd
  rcases DataW.trod_slice ht hf with ⟨hcs, _⟩ | ⟨x, l, c, elems, rest, n, _, hcs, hx, hb, hl, hm, hlen, hel, _, _⟩
  · simp [Value.cells] at hcs
    obtain ⟨rfl, rfl, rfl⟩ := hcs
    exact ⟨none, 0, [], rfl, Nat.le_refl _, ⟨rfl, Nat.zero_le _, fun h => absurd h (Nat.lt_irrefl 0)⟩, Nat.zero_le _, by simp⟩
  · simp [Value.cells] at hcs
    obtain ⟨rfl, rfl, rfl⟩ := hcs
    obtain ⟨hx, _⟩ := Prod.mk.inj hx
    subst hx
    have hlw : len ≤ 140737488351232 := by
      have h1 := hw ((elems.map (·.1)).length * P.bytesOf e + (rest.map (·.1)).length * P.bytesOf e) (by simp [DataW.weights, ht, Nat.add_mul])
      rw [List.length_map, hlen] at h1
      have h2 : len * 1 ≤ len * P.bytesOf e := Nat.mul_le_mul_left _ hB
      have h3 : reachBytes = 140737488351232 := rfl
      omega
    have each : ∀ i, i < len → ∃ y : α, Q y ∧ ∃ cs : List Value, cs.length = sz ∧ kd.K w y cs ∧ ∀ j u, cs[j]? = some u → w.cell? (x.add (i * sz + j)) = some u := by
      intro i hi
      have h1 := hel i hi
      have hi2 : i < elems.length := by omega
      rw [List.getElem?_eq_getElem hi2, hc, Option.bind_eq_some_iff] at h1
      obtain ⟨cs, h2, h3⟩ := h1
      obtain ⟨y, h4, h5⟩ := mk _ _ _ h3 (fun m hm => hw m (by
        simp only [DataW.weights, ht, List.mem_cons, List.mem_append]
        exact .inr (.inl (weights_all (List.mem_map_of_mem (List.getElem_mem hi2)) m hm))))
      obtain ⟨h6, h7⟩ := cells_each h2
      refine ⟨y, h5, cs, h6, h4, fun j z hz => ?_⟩
      have h8 := h7 j z hz
      rw [add_add] at h8
      exact h8
    obtain ⟨ls, hls, hq⟩ := list_each len each
    have hmx : len ≤ 9223372036854775807 := by omega
    refine ⟨some x, cap, ls, by rw [hls], by rw [hls]; exact hl, ⟨rfl, by rw [hls]; exact hmx, fun _ => ⟨x, rfl, fun j p hp => ?_⟩⟩, by rw [hls]; exact hlw, fun y hy => ?_⟩
    · obtain ⟨_, cs, h1, h2, h3⟩ := hq j p hp
      exact ⟨cs, by rw [hs]; exact h1, h2, fun i u hu => by rw [hs]; exact h3 i u hu⟩
    · obtain ⟨i, hi⟩ := List.getElem?_of_mem hy
      exact (hq i y hi).1
theorem mk_rule {e : TypeId} {f0 f1 f2 f3 f4 : Field} (he : P.underlying e = some (.struct #[f0, f1, f2, f3, f4])) (hc : P.cellsOf e = 5)
    (o0 : f0.offset = 0) (o1 : f1.offset = 1) (o2 : f2.offset = 2) (o3 : f3.offset = 3) (o4 : f4.offset = 4)
    (z0 : P.cellsOf f0.type = 1) (z1 : P.cellsOf f1.type = 1) (z2 : P.cellsOf f2.type = 1) (z3 : P.cellsOf f3.type = 1) (z4 : P.cellsOf f4.type = 1)
    (h0 : P.underlying f0.type = some .bool) (h1 : P.underlying f1.type = some .bool) (h2 : P.underlying f2.type = some .string) (h3 : P.underlying f3.type = some .string) (h4 : P.underlying f4.type = some .string)
    (n : Nat) (cs : List Value) (x : DataW H × List MemPlace) (h : DataW.trod enc P w base spare held n e cs = some x) (hwt : ∀ m ∈ x.1.weights P e, m ≤ reachBytes) :
    ∃ a : S66, k66.K w a cs ∧ a.f2.size ≤ 140737488351232 ∧ a.f3.size ≤ 140737488351232 ∧ a.f4.size ≤ 140737488351232 := by
  obtain ⟨xs, m, _, hx, hl, hlen, hf⟩ := DataW.trod_struct he h
  rw [hc] at hl
  have g0 := hf 0 f0 rfl
  have g1 := hf 1 f1 rfl
  have g2 := hf 2 f2 rfl
  have g3 := hf 3 f3 rfl
  have g4 := hf 4 f4 rfl
  rw [o0, z0] at g0
  rw [o1, z1] at g1
  rw [o2, z2] at g2
  rw [o3, z3] at g3
  rw [o4, z4] at g4
  match cs, hl, xs, hlen with
  | [c0, c1, c2, c3, c4], _, [y0, y1, y2, y3, y4], _ =>
    obtain ⟨b0, hb0, e0⟩ := DataW.trod_bool h0 g0
    obtain ⟨b1, hb1, e1⟩ := DataW.trod_bool h1 g1
    obtain ⟨s2, hs2, e2, _⟩ := DataW.trod_string h2 g2
    obtain ⟨s3, hs3, e3, _⟩ := DataW.trod_string h3 g3
    obtain ⟨s4, hs4, e4, _⟩ := DataW.trod_string h4 g4
    simp at hb0 hb1 hs2 hs3 hs4
    subst hb0 hb1 hs2 hs3 hs4 e0 e1 e2 e3 e4 hx
    have w2 := hwt s2.data.toList.length (by simp [DataW.weights, he, DataW.weightsEach])
    have w3 := hwt s3.data.toList.length (by simp [DataW.weights, he, DataW.weightsEach])
    have w4 := hwt s4.data.toList.length (by simp [DataW.weights, he, DataW.weightsEach])
    rw [Array.length_toList] at w2 w3 w4
    exact ⟨⟨b0, b1, s2, s3, s4⟩, k66_mk w ⟨b0, b1, s2, s3, s4⟩, w2, w3, w4⟩
end
end Go.Proofs.YtmlbfepibfobaaaDoor.Hand
end

section
/- Openings of arguments: a rule by value, arrays of two and of three texts. -/
namespace Go.Proofs.YtmlbfepibfobaaaDoor.Hand
open Go.ChangeShapes Go.WideShapes Go.ChangeAt Go.Joins Go.Deep Go.RowKit Go.Proofs.YtmlbfepibfobaaaDoorW.PrintWords Go.Proofs.YtmlbfepibfobaaaDoorW.PrintLast Go.Proofs.YtmlbfepibfobaaaDoorW.PrintMore
section
variable {H : Type} {enc : TypeId × Value → H} {P : Program} {w : World} {base : Nat} {spare : Nat → Bool} {held : Bool}
theorem arr_ok {r : Reach} {b0 : Nat} {t e : TypeId} {n : Nat} {v : Value} (ht : P.underlying t = some (.array n e)) (h : Value.okWide P w r b0 t v) : ∃ cs, v = .agg cs ∧ cs.size = P.cellsOf t := by
  simp only [Value.okWide, ht] at h
  obtain ⟨cs, h1, h2, _⟩ := h
  exact ⟨cs, h1, h2⟩
theorem str_cell {e : TypeId} (he : P.underlying e = some .string) {fuel : Nat} {c : Value} {y : DataW H × List MemPlace} (h : DataW.trod enc P w base spare held fuel e [c] = some y) (hw : ∀ n ∈ y.1.weights P e, n ≤ reachBytes) : ∃ s : ByteArray, c = .string s ∧ s.size ≤ 140737488351232 := by
  obtain ⟨s, hs, hy, hz⟩ := DataW.trod_string he h
  simp at hs
  subst hs hy
  have h2 := hw s.data.toList.length (by simp [DataW.weights])
  rw [Array.length_toList] at h2
  exact ⟨s, rfl, h2⟩
theorem open_strs3 {r : Reach} {b0 : Nat} {t e : TypeId} {v : Value} {d : DataW H} {ps : List MemPlace} (ht : P.underlying t = some (.array 3 e)) (he : P.underlying e = some .string) (hce : P.cellsOf e = 1) (hct : P.cellsOf t = 3)
    (hw : ∀ n ∈ d.weights P t, n ≤ reachBytes) (hval : Value.okWide P w r b0 t v) (hd : DataW.Trod enc P w base spare held t v d ps) :
    ∃ a b c : ByteArray, v = .agg #[.string a, .string b, .string c] ∧ a.size ≤ 140737488351232 ∧ b.size ≤ 140737488351232 ∧ c.size ≤ 140737488351232 := by
  obtain ⟨cs, rfl, hs⟩ := arr_ok ht hval
  obtain ⟨fuel, hf⟩ := hd
  rw [hct] at hs
  match cs, hs with
  | ⟨[x0, x1, x2]⟩, _ =>
    obtain ⟨xs, m, _, hx, _, hl, hi⟩ := DataW.trod_array ht hf
    rw [hce] at hi
    match xs, hl with
    | [y0, y1, y2], _ =>
      have g0 := hi 0 (by decide)
      have g1 := hi 1 (by decide)
      have g2 := hi 2 (by decide)
      simp [Value.cells] at g0 g1 g2
      have hd := (Prod.mk.inj hx).1
      subst hd
      have hw' : ∀ y ∈ [y0, y1, y2], ∀ n ∈ y.1.weights P e, n ≤ reachBytes := fun y hy n hn => hw n (by
        simp only [DataW.weights, ht]
        exact weights_all (List.mem_map_of_mem hy) n hn)
      obtain ⟨a, rfl, za⟩ := str_cell he g0 (hw' y0 (by simp))
      obtain ⟨b, rfl, zb⟩ := str_cell he g1 (hw' y1 (by simp))
      obtain ⟨c, rfl, zc⟩ := str_cell he g2 (hw' y2 (by simp))
      exact ⟨a, b, c, rfl, za, zb, zc⟩
theorem open_strs2 {r : Reach} {b0 : Nat} {t e : TypeId} {v : Value} {d : DataW H} {ps : List MemPlace} (ht : P.underlying t = some (.array 2 e)) (he : P.underlying e = some .string) (hce : P.cellsOf e = 1) (hct : P.cellsOf t = 2)
    (hw : ∀ n ∈ d.weights P t, n ≤ reachBytes) (hval : Value.okWide P w r b0 t v) (hd : DataW.Trod enc P w base spare held t v d ps) :
    ∃ a b : ByteArray, v = .agg #[.string a, .string b] ∧ a.size ≤ 140737488351232 ∧ b.size ≤ 140737488351232 := by
  obtain ⟨cs, rfl, hs⟩ := arr_ok ht hval
  obtain ⟨fuel, hf⟩ := hd
  rw [hct] at hs
  match cs, hs with
  | ⟨[x0, x1]⟩, _ =>
    obtain ⟨xs, m, _, hx, _, hl, hi⟩ := DataW.trod_array ht hf
    rw [hce] at hi
    match xs, hl with
    | [y0, y1], _ =>
      have g0 := hi 0 (by decide)
      have g1 := hi 1 (by decide)
      simp [Value.cells] at g0 g1
      have hd := (Prod.mk.inj hx).1
      subst hd
      have hw' : ∀ y ∈ [y0, y1], ∀ n ∈ y.1.weights P e, n ≤ reachBytes := fun y hy n hn => hw n (by
        simp only [DataW.weights, ht]
        exact weights_all (List.mem_map_of_mem hy) n hn)
      obtain ⟨a, rfl, za⟩ := str_cell he g0 (hw' y0 (by simp))
      obtain ⟨b, rfl, zb⟩ := str_cell he g1 (hw' y1 (by simp))
      exact ⟨a, b, rfl, za, zb⟩
theorem open_ruleArg {r : Reach} {b0 : Nat} {t : TypeId} {f0 f1 f2 f3 f4 : Field} {v : Value} {d : DataW H} {ps : List MemPlace} (he : P.underlying t = some (.struct #[f0, f1, f2, f3, f4]))
    (mk : ∀ n cs x, DataW.trod enc P w base spare held n t cs = some x → (∀ m ∈ x.1.weights P t, m ≤ reachBytes) → ∃ a : S66, k66.K w a cs ∧ a.f2.size ≤ 140737488351232 ∧ a.f3.size ≤ 140737488351232 ∧ a.f4.size ≤ 140737488351232)
    (hw : ∀ n ∈ d.weights P t, n ≤ reachBytes) (hval : Value.okWide P w r b0 t v) (hd : DataW.Trod enc P w base spare held t v d ps) :
    ∃ (n m : Bool) (c a e : ByteArray), v = .agg #[.bool n, .bool m, .string c, .string a, .string e] ∧ c.size ≤ 140737488351232 ∧ a.size ≤ 140737488351232 ∧ e.size ≤ 140737488351232 := by
  obtain ⟨cs, rfl, hs⟩ := okWide_struct he hval
  obtain ⟨fuel, hf⟩ := hd
  obtain ⟨x, hK, hz⟩ := mk _ _ _ hf hw
  have e := k66_open hK
  refine ⟨x.f0, x.f1, x.f2, x.f3, x.f4, ?_, hz⟩
  obtain ⟨l⟩ := cs
  have e' : l = [.bool x.f0, .bool x.f1, .string x.f2, .string x.f3, .string x.f4] := e
  rw [e']
end
end Go.Proofs.YtmlbfepibfobaaaDoor.Hand
end
