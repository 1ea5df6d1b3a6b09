import Derived.Test.YtaokkkolbifdpaaGreatDoorMgLegendLines5
import Derived.Test.YtaokkkolbifdpaaGreatDoorMgLegendLines6
import Derived.Test.YtaokkkolbifdpaaGreatDoorRows
import Derived.OpenShut
import Derived.SliceStrings
import Derived.ProofKit
import Derived.Test.YtaokkkolbifdpaaGreatDoorMgLegendLines0
import Derived.ChangeSame
import Derived.Lib.SmallJoins
import Derived.SizedLaws
section
namespace Go.Proofs.YtaokkkolbifdpaaGreatDoor.PLegendLines
open Go.RowKit Go.Proofs.YtaokkkolbifdpaaGreatDoorW.PrintWords Go.Proofs.YtaokkkolbifdpaaGreatDoorW.PrintLast Go.Proofs.YtaokkkolbifdpaaGreatDoorW.PrintMore Go.Proofs.YtaokkkolbifdpaaGreatDoor.Hand
attribute [local go_sem] max2_int min2_int max_two min_two max_three min_three max_four min_four   -- for this text's walks alone
set_option linter.unusedVariables false
set_option linter.unusedSimpArgs false
end Go.Proofs.YtaokkkolbifdpaaGreatDoor.PLegendLines
end

section
namespace Go.Proofs.YtaokkkolbifdpaaGreatDoor.Pure
open Go.RowKit Go.Proofs.YtaokkkolbifdpaaGreatDoor.PLegendLines Go.Proofs.YtaokkkolbifdpaaGreatDoor.Hand Go.Proofs.YtaokkkolbifdpaaGreatDoorW.PrintWords Go.Proofs.YtaokkkolbifdpaaGreatDoorW.PrintLast
set_option linter.unusedVariables false
theorem read_back (line : List UInt8) (h : (readS line).2.2 = true) : lineS (readS line).1 (readS line).2.1 = line := by
  have hj := line_fields line
  unfold readS at h ⊢
  generalize fieldsL line = l at h hj ⊢
  unfold readF at h ⊢
  split at h
  · rename_i a b c
    split at h
    · rename_i hw
      rw [if_pos hw]
      unfold lineS
      rw [if_pos hw]
      exact hj
    · cases h
  · rename_i a b c d
    split at h
    · rename_i hw
      rw [if_pos hw]
      obtain ⟨rfl, hm, hc⟩ := hw
      cases c with
      | nil => cases hc
      | cons x r =>
        obtain rfl : x = 40 := by simpa using hc
        unfold lineS
        have n1 : ¬ (wMethod = wClass ∨ wMethod = wField) := by decide
        rw [if_neg n1, if_pos rfl]
        show lineL [wMethod, keyN (b ++ 40 :: r), keyD (b ++ 40 :: r), d] = line
        rw [(key_at b r hm).1, (key_at b r hm).2]
        exact hj
    · cases h
  · cases h
theorem pairs_same (x : ByteArray) : (x.toList == x.toList) = true := beq_self_eq_true _
theorem LegendLines (word old new line : ByteArray) : ∃ k, secateurlaw30_LegendLines.f k word old new line = some true := by
  refine ⟨1, ?_⟩
  have hsure : secateurlaw30_LegendLines.j0 1 word line true old new = some true := by
    rw [secateurlaw30_LegendLines.j0, if_pos rfl]
    rfl
  unfold secateurlaw30_LegendLines.f
  by_cases h1 : (line.size : Int) > 2000
  · rw [if_pos h1]; exact hsure
  rw [if_neg h1]
  by_cases h2 : (old.size : Int) > 300
  · rw [if_pos h2]; exact hsure
  rw [if_neg h2]
  by_cases h3 : (new.size : Int) > 300
  · rw [decide_eq_true h3]; exact hsure
  rw [decide_eq_false h3, secateurlaw30_LegendLines.j0, if_neg (by decide)]
  have e1 : legend_Read.f line = some (legOut (readS (bl line))) := by unfold legend_Read.f; rw [if_pos (by omega)]
  have e2 : secateurref30_Read.f line = some (legOut (readS (bl line))) := by unfold secateurref30_Read.f; rw [if_pos (by omega)]
  have e3 : legend_Line.f word old new = some (lb (lineS (bl word) (bl old, bl new))) := by unfold legend_Line.f; rw [if_pos ⟨by omega, by omega⟩]
  have e4 : secateurref30_Line.f word old new = some (lb (lineS (bl word) (bl old, bl new))) := e3
  rw [e1, e2, e3, e4]
  simp only [Option.bind_some]
  show (secateurlaw30_sure.f.bind fun t => _) = _
  rw [show secateurlaw30_sure.f = some true from rfl, Option.bind_some, if_pos rfl, if_pos trivial, if_pos trivial]
  rw [if_pos (by rw [pairs_same, pairs_same]; rfl), if_pos (beq_self_eq_true _)]
  by_cases hr : (readS (bl line)).2.2 = true
  · have hk : (legOut (readS (bl line))).2.2.2 = true := hr
    rw [if_pos hk]
    have hl := readS_len (bl line) hr
    rw [bl_len] at hl
    have e5 : legend_Line.f (legOut (readS (bl line))).1 (legOut (readS (bl line))).2.1 (legOut (readS (bl line))).2.2.1 = some line := by
      unfold legend_Line.f
      rw [if_pos ⟨by show (lb _).size ≤ _; rw [lb_size]; omega, by show (lb _).size ≤ _; rw [lb_size]; omega⟩]
      show some (lb (lineS (bl (lb _)) (bl (lb _), bl (lb _)))) = _
      rw [bl_lb, bl_lb, bl_lb, read_back (bl line) hr, lb_bl]
    rw [e5, Option.bind_some, pairs_same]
  · have hk : ¬ (legOut (readS (bl line))).2.2.2 = true := hr
    rw [if_neg hk]
end Go.Proofs.YtaokkkolbifdpaaGreatDoor.Pure
end

section
namespace Go.Proofs.YtaokkkolbifdpaaGreatDoor.Hand
open Go.ChangeShapes Go.WideShapes Go.ChangeAt Go.RowKit Go.Proofs.YtaokkkolbifdpaaGreatDoorW.PrintWords Go.Proofs.YtaokkkolbifdpaaGreatDoorW.PrintLast Go.Proofs.YtaokkkolbifdpaaGreatDoorW.PrintMore
section
variable {H : Type} {enc : TypeId × Value → H} {P : Program} {w : World} {base : Nat} {spare : Nat → Bool} {held : Bool}
end
end Go.Proofs.YtaokkkolbifdpaaGreatDoor.Hand
end

section
namespace Go.Proofs.YtaokkkolbifdpaaGreatDoor.Hand
open Go.ChangeShapes Go.WideShapes Go.ChangeAt Go.Joins Go.Deep Go.RowKit Go.Proofs.YtaokkkolbifdpaaGreatDoorW.PrintWords Go.Proofs.YtaokkkolbifdpaaGreatDoorW.PrintLast Go.Proofs.YtaokkkolbifdpaaGreatDoorW.PrintMore
set_option linter.unusedVariables false
namespace Op
section
variable {H : Type} {enc : TypeId × Value → H} {P : Program} {w : World} {base : Nat} {spare : Nat → Bool} {held : Bool}
def Opens (enc : TypeId × Value → H) (P : Program) (w : World) (base : Nat) (spare : Nat → Bool) (held : Bool) {α : Type} (kd : Kd α) (Q : α → Prop) (t : TypeId) : Prop :=
  ∀ (n : Nat) (cs : List Value) (x : DataW H × List MemPlace), DataW.trod enc P w base spare held n t cs = some x → (∀ m ∈ x.1.weights P t, m ≤ reachBytes) → ∃ a, kd.K w a cs ∧ Q a
theorem opens_str {t : TypeId} (ht : P.underlying t = some .string) : Opens enc P w base spare held Kd.string (fun s => s.size ≤ 140737488351232) t := by
  intro n cs x h hw
  obtain ⟨s, rfl, rfl, _⟩ := DataW.trod_string ht h
  have h2 := hw s.data.toList.length (by simp [DataW.weights])
  rw [Array.length_toList] at h2
  exact ⟨s, rfl, h2⟩
def Fields (enc : TypeId × Value → H) (P : Program) (w : World) (base : Nat) (spare : Nat → Bool) (held : Bool) {α : Type} (kd : Kd α) (Q : α → Prop) (fs : List Field) (o : Nat) : Prop :=
  ∀ (n : Nat) (cs : List Value) (xs : List (DataW H × List MemPlace)), cs.length = o + kd.sz → xs.length = fs.length →
    (∀ (i : Nat) (f : Field), fs[i]? = some f → DataW.trod enc P w base spare held n f.type ((cs.drop f.offset).take (P.cellsOf f.type)) = xs[i]?) →
    (∀ (i : Nat) (f : Field) (x : DataW H × List MemPlace), fs[i]? = some f → xs[i]? = some x → ∀ m ∈ x.1.weights P f.type, m ≤ reachBytes) → ∃ a, kd.K w a (cs.drop o) ∧ Q a
theorem fields_one {α : Type} {kd : Kd α} {Q : α → Prop} {f : Field} {o : Nat} (hoff : f.offset = o) (hc : P.cellsOf f.type = kd.sz) (ho : Opens enc P w base spare held kd Q f.type) : Fields enc P w base spare held kd Q [f] o := by
  intro n cs xs hl hx hf hw
  match xs, hx with
  | [y], _ =>
    have h := hf 0 f rfl
    rw [hoff, hc, List.take_of_length_le (by rw [List.length_drop]; omega)] at h
    exact ho _ _ _ h (hw 0 f y rfl rfl)
theorem fields_cons {α β : Type} {k1 : Kd α} {k2 : Kd β} {Q1 : α → Prop} {Q2 : β → Prop} {f : Field} {fs : List Field} {o : Nat} (hoff : f.offset = o) (hc : P.cellsOf f.type = k1.sz) (ho : Opens enc P w base spare held k1 Q1 f.type)
    (h2 : Fields enc P w base spare held k2 Q2 fs (o + k1.sz)) : Fields enc P w base spare held (Kd.pair k1 k2) (fun p => Q1 p.1 ∧ Q2 p.2) (f :: fs) o := by
  intro n cs xs hl hx hf hw
  have hl' : cs.length = o + (k1.sz + k2.sz) := hl
  match xs, hx with
  | y :: ys, hx =>
    have h := hf 0 f rfl
    rw [hoff, hc] at h
    obtain ⟨a, ha, qa⟩ := ho _ _ _ h (hw 0 f y rfl rfl)
    obtain ⟨b, hb, qb⟩ := h2 n cs ys (by omega) (by simpa using hx) (fun i g hg => by have := hf (i + 1) g (by simpa using hg); simpa using this) (fun i g x hg hx => hw (i + 1) g x (by simpa using hg) (by simpa using hx))
    refine ⟨(a, b), ⟨(cs.drop o).take k1.sz, cs.drop (o + k1.sz), ?_, ha, hb⟩, qa, qb⟩
    rw [← List.drop_drop, List.take_append_drop]
theorem weights_fields : ∀ {fs : List Field} {xs : List (DataW H × List MemPlace)} {i : Nat} {f : Field} {x : DataW H × List MemPlace}, fs[i]? = some f → xs[i]? = some x → ∀ m ∈ x.1.weights P f.type, m ∈ DataW.weightsEach P (fs.map (·.type)) (xs.map (·.1))
  | [], _, i, f, x, hf, _, _, _ => by simp at hf
  | _ :: _, [], i, f, x, _, hx, _, _ => by simp at hx
  | g :: fs, y :: ys, 0, f, x, hf, hx, m, hm => by
    simp at hf hx
    subst hf hx
    simp only [List.map_cons, DataW.weightsEach, List.mem_append]
    exact .inl hm
  | g :: fs, y :: ys, i + 1, f, x, hf, hx, m, hm => by
    simp only [List.map_cons, DataW.weightsEach, List.mem_append]
    exact .inr (weights_fields (fs := fs) (xs := ys) (i := i) (by simpa using hf) (by simpa using hx) m hm)
theorem opens_struct {α : Type} {kd : Kd α} {Q : α → Prop} {t : TypeId} {fs : Array Field} (ht : P.underlying t = some (.struct fs)) (hc : P.cellsOf t = kd.sz) (hf : Fields enc P w base spare held kd Q fs.toList 0) : Opens enc P w base spare held kd Q t := by
  intro fuel cs x h hw
  obtain ⟨xs, m, _, rfl, hl, hlen, hi⟩ := DataW.trod_struct ht h
  obtain ⟨a, ha, hq⟩ := hf m cs xs (by omega) (by simpa using hlen) (fun i f hf => hi i f (by simpa using hf)) (fun i f x hf hx n hn => hw n (by
    simp only [DataW.weights, ht]
    exact weights_fields hf hx n hn))
  exact ⟨a, by simpa using ha, hq⟩
theorem opens_mono {α : Type} {kd : Kd α} {Q Q' : α → Prop} {t : TypeId} (ho : Opens enc P w base spare held kd Q t) (h : ∀ a, Q a → Q' a) : Opens enc P w base spare held kd Q' t := by
  intro n cs x hx hw
  obtain ⟨a, ha, hq⟩ := ho n cs x hx hw
  exact ⟨a, ha, h a hq⟩
theorem open_agg {α : Type} {kd : Kd α} {Q : α → Prop} {t : TypeId} {fs : Array Field} {r : Reach} {b0 : Nat} {v : Value} {d : DataW H} {ps : List MemPlace} (ht : P.underlying t = some (.struct fs)) (ho : Opens enc P w base spare held kd Q t)
    (hw : ∀ n ∈ d.weights P t, n ≤ reachBytes) (hval : Value.okWide P w r b0 t v) (hd : DataW.Trod enc P w base spare held t v d ps) : ∃ a cs, v = .agg ⟨cs⟩ ∧ kd.K w a cs ∧ Q a := by
  obtain ⟨⟨cs⟩, rfl, _⟩ := okWide_struct ht hval
  obtain ⟨fuel, hf⟩ := hd
  obtain ⟨a, ha, hq⟩ := ho _ _ _ hf hw
  exact ⟨a, cs, rfl, ha, hq⟩
end
end Op
end Go.Proofs.YtaokkkolbifdpaaGreatDoor.Hand
end

section
namespace Go.Proofs.YtaokkkolbifdpaaGreatDoor.Hand
open Go.ChangeShapes Go.WideShapes Go.ChangeAt Go.Joins Go.Deep Go.RowKit Go.Proofs.YtaokkkolbifdpaaGreatDoorW.PrintWords Go.Proofs.YtaokkkolbifdpaaGreatDoorW.PrintLast Go.Proofs.YtaokkkolbifdpaaGreatDoorW.PrintMore
set_option linter.unusedVariables false
set_option maxRecDepth 20000
namespace Op
section
variable {H : Type} {enc : TypeId × Value → H} {w : World} {base : Nat} {spare : Nat → Bool} {held : Bool}
def QPr (p : ByteArray × ByteArray) : Prop := p.1.size ≤ 140737488351232 ∧ p.2.size ≤ 140737488351232
theorem opens_pr : Opens enc Tryz.prog w base spare held (Kd.pair Kd.string Kd.string) QPr 23 :=
  opens_mono (opens_struct Tryz.underlying23 (by kernel_rfl) (fields_cons rfl (by kernel_rfl) (opens_str Tryz.underlying9) (fields_one rfl (by kernel_rfl) (opens_str Tryz.underlying9)))) (fun a h => h)
theorem open_pr {r : Reach} {b0 : Nat} {v : Value} {d : DataW H} {ps : List MemPlace} (hw : ∀ n ∈ d.weights Tryz.prog 23, n ≤ reachBytes) (hval : Value.okWide Tryz.prog w r b0 23 v) (hd : DataW.Trod enc Tryz.prog w base spare held 23 v d ps) :
    ∃ a b : ByteArray, v = .agg #[.string a, .string b] ∧ a.size ≤ 140737488351232 ∧ b.size ≤ 140737488351232 := by
  obtain ⟨⟨a, b⟩, cs, rfl, hK, hq⟩ := open_agg Tryz.underlying23 opens_pr hw hval hd
  unfold QPr at hq
  obtain ⟨_, _, rfl, rfl, rfl⟩ := hK
  exact ⟨a, b, rfl, hq.1, hq.2⟩
end
end Op
end Go.Proofs.YtaokkkolbifdpaaGreatDoor.Hand
end
