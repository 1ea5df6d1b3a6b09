import Derived.Test.YtfplcohjnlbfjaaMgTopNearest1
import Derived.Test.YtfplcohjnlbfjaaMgTopNearest2
import Derived.IntWalk
import Derived.Deep.RegionHeld3
import Derived.Test.YtfplcohjnlbfjaaRows
import Derived.OpenShut
import Derived.SliceStrings
import Derived.ProofKit
import Derived.Test.YtfplcohjnlbfjaaMgTopNearest0
import Derived.ChangeSame
import Derived.Lib.SmallJoins
import Derived.SizedLaws
section
namespace Go.Proofs.Ytfplcohjnlbfjaa.Hand
open Go.RowKit Go.Proofs.YtfplcohjnlbfjaaW.PrintWords Go.Proofs.YtfplcohjnlbfjaaW.PrintLast Go.Proofs.YtfplcohjnlbfjaaW.PrintMore
set_option linter.unusedVariables false
set_option linter.unusedSimpArgs false
structure Q14 (w W : World) (pb yb : Nat) (pc yc : Array Value) (a : Addr) (s : ByteArray) : Prop where
  bel : Below w.heap.size w W
  p : W.heap[pb]? = some (Obj.cells pc 27 (0, 0))
  y : W.heap[yb]? = some (Obj.cells yc 37 (0, 0))
  s : W.cell? a = some (.string s)
theorem Q14.below {w W W' : World} {pb yb : Nat} {pc yc : Array Value} {a : Addr} {s : ByteArray} (h : Q14 w W pb yb pc yc a s) (hb : Below W.heap.size W W') : Q14 w W' pb yb pc yc a s := ⟨below_step h.bel hb, blk_below h.p hb, blk_below h.y hb, (hb.cell (cell_lt h.s)).trans h.s⟩
theorem Q14.S {w W : World} {pb yb n c0 m c1 : Nat} {A A1 : Option Addr} {a2 a3 a4 n0 d0 : ByteArray} {u2 u3 u4 u5 : Value} {a : Addr} {s : ByteArray} (h : Q14 w W pb yb #[.slice A n c0, .slice A1 m c1, .string a2, .string a3, .string a4] #[.string n0, .string d0, u2, u3, u4, u5] a s) :
    W.cell? ⟨pb, 0, none⟩ = some (.slice A n c0) ∧ W.cell? ⟨pb, 1, none⟩ = some (.slice A1 m c1) ∧ W.cell? ⟨pb, 2, none⟩ = some (.string a2) ∧ W.cell? ⟨pb, 3, none⟩ = some (.string a3) ∧ W.cell? ⟨pb, 4, none⟩ = some (.string a4) ∧ W.cell? a = some (.string s) ∧ W.cell? ⟨yb, 0, none⟩ = some (.string n0) ∧ W.cell? ⟨yb, 1, none⟩ = some (.string d0) := by
  obtain ⟨p0, p1, p2, p3, p4⟩ := cells5 h.p
  obtain ⟨y0, y1, _⟩ := cells6 h.y
  exact ⟨p0, p1, p2, p3, p4, h.s, y0, y1⟩
def classA : S33 := ⟨⟨#[65]⟩, ⟨#[]⟩, false, false, [], [], []⟩
theorem supA : hier_Supers.f [classA] [] ⟨#[]⟩ ⟨#[]⟩ ⟨#[]⟩ ⟨#[65]⟩ = some [⟨#[65]⟩] := by
  have hf : [classA].find? (isC ⟨#[65]⟩) = some classA := by
    have : isC ⟨#[65]⟩ classA = true := beq_self_eq_true _
    rw [List.find?_cons, this]
  have h1 : hasC [classA] ⟨#[65]⟩ = true := by unfold hasC; rw [hf]; rfl
  have h2 : knownC [classA] ⟨#[65]⟩ = classA := by unfold knownC; rw [hf]; rfl
  unfold hier_Supers.f
  rw [if_pos ⟨fun c hc => by rw [List.mem_singleton.1 hc]; decide, by decide⟩]
  show some (upF 2 [classA] [] ⟨#[65]⟩) = _
  rw [upF, if_pos ⟨h1, rfl⟩, h2, if_pos (by rfl)]
def clinit : List UInt8 := [60, 99, 108, 105, 110, 105, 116, 62]
theorem dec_at {l0 : List S33} {xs : List ByteArray} {n d : ByteArray} {i : Nat} (hi : i < xs.length) (hno : ∀ j (hj : j < xs.length), j < i → hasM l0 xs[j] n d = false) (hh : hasM l0 xs[i] n d = true) : decF l0 xs n d = if mayD (getM l0 xs[i] n d) = true then (xs[i], n, d, true) else (⟨#[]⟩, ⟨#[]⟩, ⟨#[]⟩, false) := by
  have hf : xs.find? (fun s => hasM l0 s n d) = some xs[i] := by
    rw [List.find?_eq_some_iff_getElem]
    exact ⟨hh, i, hi, rfl, fun j hj => by rw [hno j (by omega) hj]; rfl⟩
  unfold decF
  rw [hf]
theorem get_name {l0 : List S33} {c n d : ByteArray} (hh : hasM l0 c n d = true) : (getM l0 c n d).f0.toList = n.toList := by
  unfold hasM at hh
  unfold getM
  cases hf : (knownC l0 c).f6.find? (isM n d) with
  | none => rw [hf] at hh; cases hh
  | some m =>
    have h1 : isM n d m = true := List.find?_some hf
    unfold isM at h1
    rw [Bool.and_eq_true] at h1
    exact eq_of_beq h1.1
theorem dec_cases {l0 : List S33} {xs : List ByteArray} {n d s r1 r2 r3 : ByteArray} {r4 : Bool} {z : S37} {i : Nat} (hi : i < xs.length) (hs : xs[i] = s) (hno : ∀ j (hj : j < xs.length), j < i → hasM l0 xs[j] n d = false) (hh : hasM l0 s n d = true) (hz : getM l0 s n d = z) (hd : decF l0 xs n d = (r1, r2, r3, r4)) :
    (z.f2 = true ∧ r4 = false) ∨ (z.f2 = false ∧ z.f3 = true ∧ r4 = false) ∨ (z.f2 = false ∧ z.f3 = false ∧ n.toList = clinit ∧ r4 = false) ∨ (z.f2 = false ∧ z.f3 = false ∧ n.toList ≠ clinit ∧ r4 = true ∧ r1 = s) := by
  have h1 := dec_at hi hno (by rw [hs]; exact hh)
  have h0 : z.f0.toList = n.toList := by rw [← hz]; exact get_name hh
  rw [hs, hz, hd] at h1
  have hm : mayD z = (!z.f2 && !z.f3 && (n.toList != clinit)) := by unfold mayD; rw [h0]; rfl
  rw [hm] at h1
  cases h2 : z.f2 with
  | true => rw [h2] at h1; simp at h1; exact .inl ⟨rfl, h1.2.2.2⟩
  | false =>
    cases h3 : z.f3 with
    | true => rw [h2, h3] at h1; simp at h1; exact .inr (.inl ⟨rfl, rfl, h1.2.2.2⟩)
    | false =>
      rw [h2, h3] at h1
      by_cases hn : n.toList = clinit
      · rw [hn] at h1; simp at h1; exact .inr (.inr (.inl ⟨rfl, rfl, hn, h1.2.2.2⟩))
      · have : (n.toList != clinit) = true := bne_iff_ne.2 hn
        rw [this] at h1
        simp at h1
        exact .inr (.inr (.inr ⟨rfl, rfl, hn, h1.2.2.2, h1.1⟩))
structure Q16 (W : World) (R yb mb : Nat) (zc yc mc : Array Value) (a : Addr) (s : ByteArray) : Prop where
  z : W.heap[R]? = some (Obj.cells zc 37 (0, 0))
  y : W.heap[yb]? = some (Obj.cells yc 37 (0, 0))
  m : W.heap[mb]? = some (Obj.cells mc 25 (0, 0))
  s : W.cell? a = some (.string s)
theorem Q16.below {W W' : World} {R yb mb : Nat} {zc yc mc : Array Value} {a : Addr} {s : ByteArray} (h : Q16 W R yb mb zc yc mc a s) (hb : Below W.heap.size W W') : Q16 W' R yb mb zc yc mc a s := ⟨blk_below h.z hb, blk_below h.y hb, blk_below h.m hb, (hb.cell (cell_lt h.s)).trans h.s⟩
theorem Q16.S {W : World} {R yb mb : Nat} {u0 u1 u2 u3 u4 u5 t0 t1 t2 t3 t4 t5 m0 m1 m2 : Value} {a : Addr} {s : ByteArray} (h : Q16 W R yb mb #[u0, u1, u2, u3, u4, u5] #[t0, t1, t2, t3, t4, t5] #[m0, m1, m2] a s) :
    W.cell? ⟨R, 2, none⟩ = some u2 ∧ W.cell? ⟨R, 3, none⟩ = some u3 ∧ W.cell? ⟨yb, 0, none⟩ = some t0 ∧ W.cell? ⟨mb, 0, none⟩ = some m0 ∧ W.cell? a = some (.string s) := by
  obtain ⟨_, _, z2, z3, _⟩ := cells6 h.z
  obtain ⟨y0, _⟩ := cells6 h.y
  obtain ⟨m0, _⟩ := cells3 h.m
  exact ⟨z2, z3, y0, m0, h.s⟩
theorem one_class {w : World} {g : Nat} (h : w.heap[g]? = some (Obj.cells #[.string ⟨#[65]⟩, .string ⟨#[]⟩, .bool false, .bool false, .slice none 0 0, .slice none 0 0, .slice none 0 0] 33 (0, 0))) : Kd.C k33 w (some ⟨g, 0, none⟩) [classA].length [classA] := by
  refine ⟨rfl, by decide, fun _ => ⟨⟨g, 0, none⟩, rfl, fun j p hj => ?_⟩⟩
  have hj0 : j = 0 := by
    have := (List.getElem?_eq_some_iff.1 hj).1
    simp at this
    omega
  subst hj0
  simp at hj
  subst hj
  refine ⟨[.string ⟨#[65]⟩, .string ⟨#[]⟩, .bool false, .bool false, .slice none 0 0, .slice none 0 0, .slice none 0 0], rfl, k33_mk w classA (Nat.le_refl _) (Kd.C_nil _ _) (Nat.le_refl _) (Kd.C_nil _ _) (Nat.le_refl _) (Kd.C_nil _ _), fun i u hu => ?_⟩
  have hb := blk_cell h i
  have e : (#[.string ⟨#[65]⟩, .string ⟨#[]⟩, .bool false, .bool false, .slice none 0 0, .slice none 0 0, .slice none 0 0] : Array Value)[i]? = some u := by rw [List.getElem?_toArray]; exact hu
  rw [e] at hb
  have ha : (⟨g, 0, none⟩ : Addr).add i = ⟨g, i, none⟩ := by
    unfold Addr.add
    by_cases h0 : i = 0
    · subst h0; rfl
    · rw [if_neg h0]; simp
  simpa [ha] using hb
set_option maxHeartbeats 16000000 in
set_option maxRecDepth 20000 in
theorem top_great (A0 : Option Addr) (c0 : Nat) (l0 : List S33) (A1 : Option Addr) (c1 : Nat) (l1 : List ByteArray) (a2 a3 a4 : ByteArray) (v0 v1 v2 : Int) (w : World) (hr0 : Kd.C k33 w A0 l0.length l0) (hc0 : l0.length ≤ c0) (hr1 : Kd.C Kd.string w A1 l1.length l1) (hc1 : l1.length ≤ c1)
    (k : Nat) (hg : PTopNearest.secateurlaw08_Great.f k l0 l1 a2 a3 a4 = some true) :
    Calls Try.prog 3 #[.agg #[.slice A0 l0.length c0, .slice A1 l1.length c1, .string a2, .string a3, .string a4], .agg #[.int .u8 v0, .int .u8 v1, .int .u8 v2]] w fun e w' => e = .returned (.bool true) ∧ Below w.heap.size w w' := by
  have HS := Aside0.mk (fun W g (h : W.heap[g]? = some (Obj.cells #[.string ⟨#[65]⟩, .string ⟨#[]⟩, .bool false, .bool false, .slice none 0 0, .slice none 0 0, .slice none 0 0] 33 (0, 0))) => hier_Supers.calls (some ⟨g, 0, none⟩) 1 [classA] none 0 [] ⟨#[]⟩ ⟨#[]⟩ ⟨#[]⟩ ⟨#[65]⟩ _ W (one_class h) (Nat.le_refl _) (Kd.C_nil _ _) (Nat.le_refl _) supA)
  have HG := Aside0.mk (fun W (hW : Below w.heap.size w W) => PTopNearest.secateurlaw08_Great.calls k A0 c0 l0 A1 c1 l1 a2 a3 a4 true W (Kd.C_below hr0 hW) hc0 (Kd.C_below hr1 hW) hc1 hg)
  clear hg hr0 hr1
  go_enter Try.func3, Try.ntmps3
  have hP := blk_alloc (blk_alloc (World.alloc_heap_new w (Obj.cells #[.slice A0 l0.length c0, .slice A1 l1.length c1, .string a2, .string a3, .string a4] 27)) (Obj.cells #[.int .u8 v0, .int .u8 v1, .int .u8 v2] 28)) (Obj.cells #[.string ⟨#[65]⟩, .string ⟨#[]⟩, .bool false, .bool false, .slice none 0 0, .slice none 0 0, .slice none 0 0] 33)
  have hA := World.alloc_heap_new (w.alloc (Obj.cells #[.slice A0 l0.length c0, .slice A1 l1.length c1, .string a2, .string a3, .string a4] 27)) (Obj.cells #[.int .u8 v0, .int .u8 v1, .int .u8 v2] 28)
  rw [World.size_alloc] at hA
  have hA := blk_alloc hA (Obj.cells #[.string ⟨#[65]⟩, .string ⟨#[]⟩, .bool false, .bool false, .slice none 0 0, .slice none 0 0, .slice none 0 0] 33)
  have hC := World.alloc_heap_new ((w.alloc (Obj.cells #[.slice A0 l0.length c0, .slice A1 l1.length c1, .string a2, .string a3, .string a4] 27)).alloc (Obj.cells #[.int .u8 v0, .int .u8 v1, .int .u8 v2] 28)) (Obj.cells #[.string ⟨#[65]⟩, .string ⟨#[]⟩, .bool false, .bool false, .slice none 0 0, .slice none 0 0, .slice none 0 0] 33)
  rw [World.size_alloc, World.size_alloc] at hC
  have hB0 := below_alloc (below_alloc (below_alloc (Below.refl w.heap.size w) (Obj.cells #[.slice A0 l0.length c0, .slice A1 l1.length c1, .string a2, .string a3, .string a4] 27)) (Obj.cells #[.int .u8 v0, .int .u8 v1, .int .u8 v2] 28)) (Obj.cells #[.string ⟨#[65]⟩, .string ⟨#[]⟩, .bool false, .bool false, .slice none 0 0, .slice none 0 0, .slice none 0 0] 33)
  go_wp2_with fail
  refine (HS.out _ _ hC).mono ?_
  rintro e w1 ⟨v, rfl, hR, hb⟩
  obtain ⟨A, c, rfl, _, _⟩ := Kd.R_reads hR
  have HB1 := Aside0.mk (below_step hB0 hb)
  have HP1 := Aside0.mk (blk_below hP hb)
  have HA1 := Aside0.mk (blk_below hA hb)
  clear hb hP hA hC hB0 hR
  obtain ⟨p0, p1, p2, p3, p4⟩ := cells5 HP1.out
  go_wp2_with fail
  refine (HG.out _ HB1.out).mono ?_
  rintro e w2 ⟨rfl, hb2⟩
  have HB2 := Aside0.mk (below_step HB1.out (by first | exact hb2 | exact hb2.below))
  clear hb2
  go_wp2_with fail
  exact bodyPost_ret (results_tmp rfl _ _ _) rfl ⟨rfl, HB2.out⟩
set_option maxHeartbeats 16000000 in
set_option maxRecDepth 20000 in
theorem top_empty (A0 : Option Addr) (c0 : Nat) (A1 : Option Addr) (c1 : Nat) (l1 : List ByteArray) (a2 a3 a4 : ByteArray) (v0 v1 v2 : Int) (w : World) (hr0 : Kd.C k33 w A0 ([] : List S33).length []) (hc0 : ([] : List S33).length ≤ c0) (hr1 : Kd.C Kd.string w A1 l1.length l1) (hc1 : l1.length ≤ c1)
    (k : Nat) (hg : PTopNearest.secateurlaw08_Great.f k [] l1 a2 a3 a4 = some false) :
    Calls Try.prog 3 #[.agg #[.slice A0 ([] : List S33).length c0, .slice A1 l1.length c1, .string a2, .string a3, .string a4], .agg #[.int .u8 v0, .int .u8 v1, .int .u8 v2]] w fun e w' => e = .returned (.bool true) ∧ Below w.heap.size w w' := by
  have HS := Aside0.mk (fun W g (h : W.heap[g]? = some (Obj.cells #[.string ⟨#[65]⟩, .string ⟨#[]⟩, .bool false, .bool false, .slice none 0 0, .slice none 0 0, .slice none 0 0] 33 (0, 0))) => hier_Supers.calls (some ⟨g, 0, none⟩) 1 [classA] none 0 [] ⟨#[]⟩ ⟨#[]⟩ ⟨#[]⟩ ⟨#[65]⟩ _ W (one_class h) (Nat.le_refl _) (Kd.C_nil _ _) (Nat.le_refl _) supA)
  have HG := Aside0.mk (fun W (hW : Below w.heap.size w W) => PTopNearest.secateurlaw08_Great.calls k A0 c0 [] A1 c1 l1 a2 a3 a4 false W (Kd.C_below hr0 hW) hc0 (Kd.C_below hr1 hW) hc1 hg)
  clear hg hr0 hr1
  go_enter Try.func3, Try.ntmps3
  have hP := blk_alloc (blk_alloc (World.alloc_heap_new w (Obj.cells #[.slice A0 ([] : List S33).length c0, .slice A1 l1.length c1, .string a2, .string a3, .string a4] 27)) (Obj.cells #[.int .u8 v0, .int .u8 v1, .int .u8 v2] 28)) (Obj.cells #[.string ⟨#[65]⟩, .string ⟨#[]⟩, .bool false, .bool false, .slice none 0 0, .slice none 0 0, .slice none 0 0] 33)
  have hA := World.alloc_heap_new (w.alloc (Obj.cells #[.slice A0 ([] : List S33).length c0, .slice A1 l1.length c1, .string a2, .string a3, .string a4] 27)) (Obj.cells #[.int .u8 v0, .int .u8 v1, .int .u8 v2] 28)
  rw [World.size_alloc] at hA
  have hA := blk_alloc hA (Obj.cells #[.string ⟨#[65]⟩, .string ⟨#[]⟩, .bool false, .bool false, .slice none 0 0, .slice none 0 0, .slice none 0 0] 33)
  have hC := World.alloc_heap_new ((w.alloc (Obj.cells #[.slice A0 ([] : List S33).length c0, .slice A1 l1.length c1, .string a2, .string a3, .string a4] 27)).alloc (Obj.cells #[.int .u8 v0, .int .u8 v1, .int .u8 v2] 28)) (Obj.cells #[.string ⟨#[65]⟩, .string ⟨#[]⟩, .bool false, .bool false, .slice none 0 0, .slice none 0 0, .slice none 0 0] 33)
  rw [World.size_alloc, World.size_alloc] at hC
  have hB0 := below_alloc (below_alloc (below_alloc (Below.refl w.heap.size w) (Obj.cells #[.slice A0 ([] : List S33).length c0, .slice A1 l1.length c1, .string a2, .string a3, .string a4] 27)) (Obj.cells #[.int .u8 v0, .int .u8 v1, .int .u8 v2] 28)) (Obj.cells #[.string ⟨#[65]⟩, .string ⟨#[]⟩, .bool false, .bool false, .slice none 0 0, .slice none 0 0, .slice none 0 0] 33)
  go_wp2_with fail
  refine (HS.out _ _ hC).mono ?_
  rintro e w1 ⟨v, rfl, hR, hb⟩
  obtain ⟨A, c, rfl, _, _⟩ := Kd.R_reads hR
  have HB1 := Aside0.mk (below_step hB0 hb)
  have HP1 := Aside0.mk (blk_below hP hb)
  have HA1 := Aside0.mk (blk_below hA hb)
  clear hb hP hA hC hB0 hR
  obtain ⟨p0, p1, p2, p3, p4⟩ := cells5 HP1.out
  go_wp2_with fail
  refine (HG.out _ HB1.out).mono ?_
  rintro e w2 ⟨rfl, hb2⟩
  have HB2 := Aside0.mk (below_step HB1.out hb2)
  obtain ⟨p0, p1, p2, p3, p4⟩ := cells5 (blk_below HP1.out hb2)
  clear hb2
  go_wp2_with fail
  exact bodyPost_ret (results_tmp rfl _ _ _) rfl ⟨rfl, HB2.out⟩
set_option maxHeartbeats 16000000 in
set_option maxRecDepth 20000 in
theorem top_some (A0 : Option Addr) (c0 : Nat) (l0 : List S33) (A1 : Option Addr) (c1 : Nat) (l1 : List ByteArray) (a2 a3 a4 : ByteArray) (v0 v1 v2 : Int) (hv0 : 0 ≤ v0 ∧ v0 ≤ 255) (hv1 : 0 ≤ v1 ∧ v1 ≤ 255) (hv2 : 0 ≤ v2 ∧ v2 ≤ 255) (w : World) (hr0 : Kd.C k33 w A0 l0.length l0) (hc0 : l0.length ≤ c0) (hr1 : Kd.C Kd.string w A1 l1.length l1) (hc1 : l1.length ≤ c1)
    (k : Nat) (hg : PTopNearest.secateurlaw08_Great.f k l0 l1 a2 a3 a4 = some false) (hl : l0.length ≤ 70) (hpos : 0 < l0.length) (hz : ∀ c ∈ l0, c.f0.size ≤ 9223372036854775807) :
    Calls Try.prog 3 #[.agg #[.slice A0 l0.length c0, .slice A1 l1.length c1, .string a2, .string a3, .string a4], .agg #[.int .u8 v0, .int .u8 v1, .int .u8 v2]] w fun e w' => e = .returned (.bool true) ∧ Below w.heap.size w w' := by
  have HS := Aside0.mk (fun W g (h : W.heap[g]? = some (Obj.cells #[.string ⟨#[65]⟩, .string ⟨#[]⟩, .bool false, .bool false, .slice none 0 0, .slice none 0 0, .slice none 0 0] 33 (0, 0))) => hier_Supers.calls (some ⟨g, 0, none⟩) 1 [classA] none 0 [] ⟨#[]⟩ ⟨#[]⟩ ⟨#[]⟩ ⟨#[65]⟩ _ W (one_class h) (Nat.le_refl _) (Kd.C_nil _ _) (Nat.le_refl _) supA)
  have HG := Aside0.mk (fun W (hW : Below w.heap.size w W) => PTopNearest.secateurlaw08_Great.calls k A0 c0 l0 A1 c1 l1 a2 a3 a4 false W (Kd.C_below hr0 hW) hc0 (Kd.C_below hr1 hW) hc1 hg)
  obtain ⟨i0, hi0, e0⟩ : ∃ i : Nat, i < l0.length ∧ Int.tmod v0 (l0.length : Int) = (i : Int) := ⟨(Int.tmod v0 (l0.length : Int)).toNat, by have := Int.tmod_lt_of_pos v0 (show (0 : Int) < (l0.length : Int) by omega); have := Int.tmod_nonneg (l0.length : Int) hv0.1; omega, by have := Int.tmod_nonneg (l0.length : Int) hv0.1; omega⟩
  obtain ⟨i1, hi1, e1⟩ : ∃ i : Nat, i < l0.length ∧ Int.tmod v1 (l0.length : Int) = (i : Int) := ⟨(Int.tmod v1 (l0.length : Int)).toNat, by have := Int.tmod_lt_of_pos v1 (show (0 : Int) < (l0.length : Int) by omega); have := Int.tmod_nonneg (l0.length : Int) hv1.1; omega, by have := Int.tmod_nonneg (l0.length : Int) hv1.1; omega⟩
  have HF := Aside0.mk (F_of_C heapC hr0)
  obtain ⟨ad, A4, c4, A5, c5, A6, c6, rfl, hAt0, hFK0⟩ := ClAt_of HF.out hi0
  obtain ⟨ad', A4', c4', A5', c5', A6', c6', hsome, hAt1, hFK1⟩ := ClAt_of HF.out hi1
  obtain rfl := Option.some.inj hsome
  have HAT0 := Aside0.mk hAt0
  have HAT1 := Aside0.mk hAt1
  have HFK1 := Aside0.mk hFK1
  have w0_ : IntKind.i64.wrap v0 = v0 := IntWalk.i64_in v0 (by omega)
  have w1_ : IntKind.i64.wrap v1 = v1 := IntWalk.i64_in v1 (by omega)
  have w2_ : IntKind.i64.wrap v2 = v2 := IntWalk.i64_in v2 (by omega)
  have b0 : (l0.length : Int) ≠ 0 := by omega
  have b2 : ¬ l0.length = 0 := by omega
  have b3 : ¬ l0 = [] := fun e => by rw [e] at hpos; exact absurd hpos (by decide)
  have hrm0 : ∀ W, (binOp .rem 3 (.int .i64 v0) (.int .i64 (l0.length : Int))).run Try.prog W = .ok (.int .i64 (i0 : Int)) W := fun W => by simp [go_sem, b0, b2, b3, e0, IntWalk.i64_in (i0 : Int) (by omega)]
  have hrm1 : ∀ W, (binOp .rem 3 (.int .i64 v1) (.int .i64 (l0.length : Int))).run Try.prog W = .ok (.int .i64 (i1 : Int)) W := fun W => by simp [go_sem, b0, b2, b3, e1, IntWalk.i64_in (i1 : Int) (by omega)]
  have b1 : ((l0.length : Int) == 0) = false := beq_eq_false_iff_ne.2 b0
  have HH := Aside0.mk (And.intro hr0 (And.intro hr1 (And.intro hz (And.intro hl hg))))
  clear hg hr0 hr1 hAt0 hAt1 hFK0 hFK1 hsome hz hl
  go_enter Try.func3, Try.ntmps3
  have hP := blk_alloc (blk_alloc (World.alloc_heap_new w (Obj.cells #[.slice (some ad) l0.length c0, .slice A1 l1.length c1, .string a2, .string a3, .string a4] 27)) (Obj.cells #[.int .u8 v0, .int .u8 v1, .int .u8 v2] 28)) (Obj.cells #[.string ⟨#[65]⟩, .string ⟨#[]⟩, .bool false, .bool false, .slice none 0 0, .slice none 0 0, .slice none 0 0] 33)
  have hA := World.alloc_heap_new (w.alloc (Obj.cells #[.slice (some ad) l0.length c0, .slice A1 l1.length c1, .string a2, .string a3, .string a4] 27)) (Obj.cells #[.int .u8 v0, .int .u8 v1, .int .u8 v2] 28)
  rw [World.size_alloc] at hA
  have hA := blk_alloc hA (Obj.cells #[.string ⟨#[65]⟩, .string ⟨#[]⟩, .bool false, .bool false, .slice none 0 0, .slice none 0 0, .slice none 0 0] 33)
  have hC := World.alloc_heap_new ((w.alloc (Obj.cells #[.slice (some ad) l0.length c0, .slice A1 l1.length c1, .string a2, .string a3, .string a4] 27)).alloc (Obj.cells #[.int .u8 v0, .int .u8 v1, .int .u8 v2] 28)) (Obj.cells #[.string ⟨#[65]⟩, .string ⟨#[]⟩, .bool false, .bool false, .slice none 0 0, .slice none 0 0, .slice none 0 0] 33)
  rw [World.size_alloc, World.size_alloc] at hC
  have hB0 := below_alloc (below_alloc (below_alloc (Below.refl w.heap.size w) (Obj.cells #[.slice (some ad) l0.length c0, .slice A1 l1.length c1, .string a2, .string a3, .string a4] 27)) (Obj.cells #[.int .u8 v0, .int .u8 v1, .int .u8 v2] 28)) (Obj.cells #[.string ⟨#[65]⟩, .string ⟨#[]⟩, .bool false, .bool false, .slice none 0 0, .slice none 0 0, .slice none 0 0] 33)
  go_wp2_with fail
  refine (HS.out _ _ hC).mono ?_
  rintro e w1 ⟨v, rfl, hR, hb⟩
  obtain ⟨A, c, rfl, _, _⟩ := Kd.R_reads hR
  have HB1 := Aside0.mk (below_step hB0 hb)
  have HP1 := Aside0.mk (blk_below hP hb)
  have HA1 := Aside0.mk (blk_below hA hb)
  clear hb hP hA hC hB0 hR
  obtain ⟨p0, p1, p2, p3, p4⟩ := cells5 HP1.out
  go_wp2_with fail
  refine (HG.out _ HB1.out).mono ?_
  rintro e w2 ⟨rfl, hb2⟩
  have HB2 := Aside0.mk (below_step HB1.out hb2)
  have HP2 := Aside0.mk (blk_below HP1.out hb2)
  have HA2 := Aside0.mk (blk_below HA1.out hb2)
  clear p0 p1 p2 p3 p4
  obtain ⟨p0, p1, p2, p3, p4⟩ := cells5 HP2.out
  clear hb2
  go_wp2_with fail
  obtain ⟨x0, hx0⟩ : ∃ x, l0[i0] = x := ⟨_, rfl⟩
  obtain ⟨x, hx⟩ : ∃ x, l0[i1] = x := ⟨_, rfl⟩
  rw [hx0] at HAT0
  rw [hx] at HAT1 HFK1
  have HX0 := Aside0.mk hx0
  have HX := Aside0.mk hx
  clear hx0 hx p1 p2 p3 p4
  have h0 := (HAT0.out.below HB2.out).h0
  obtain ⟨t0, t1, t2⟩ := cells3 HA2.out
  go_region_held3 (fun w' => w'.cell? ⟨w.heap.size, 0, none⟩ = some (.slice (some ad) l0.length c0) ∧ w'.cell? ⟨w.heap.size + 1, 0, none⟩ = some (.int .u8 v0) ∧ w'.cell? (ad.add (i0 * 7)) = some (.string x0.f0)) (exact ⟨p0, t0, h0⟩) (fail)
  go_wp2_with fail
  have HB3 := Aside0.mk (below_drew1 HB2.out)
  have HP3 := Aside0.mk (show w2.drew.heap[w.heap.size]? = some (Obj.cells #[.slice (some ad) l0.length c0, .slice A1 l1.length c1, .string a2, .string a3, .string a4] 27 (0, 0)) from HP2.out)
  have HA3 := Aside0.mk (show w2.drew.heap[w.heap.size + 1]? = some (Obj.cells #[.int .u8 v0, .int .u8 v1, .int .u8 v2] 28 (0, 0)) from HA2.out)
  obtain ⟨w3, hw3⟩ : ∃ w3, w2.drew = w3 := ⟨_, rfl⟩
  rw [hw3] at HB3 HP3 HA3 ⊢
  clear hw3 p0 t0 t1 t2 h0
  obtain ⟨h0, h1, h2, h3, h4, h5, h6⟩ := HAT1.out.below HB3.out
  obtain ⟨p0, _, _, _, _⟩ := cells5 HP3.out
  obtain ⟨t0, t1, t2⟩ := cells3 HA3.out
  have HD := Aside0.mk (fun o => HAT1.out.below (below_drew1 (below_alloc HB3.out o)))
  have HE := Aside0.mk (fun o => HAT1.out.below (below_alloc (below_drew1 HB3.out) o))
  have HPd := Aside0.mk (fun o => (cells5 (show ((w3.alloc o).drew).heap[w.heap.size]? = some (Obj.cells #[.slice (some ad) l0.length c0, .slice A1 l1.length c1, .string a2, .string a3, .string a4] 27 (0, 0)) from blk_alloc HP3.out o)).1)
  have HPe := Aside0.mk (fun o => (cells5 (show (w3.drew.alloc o).heap[w.heap.size]? = some (Obj.cells #[.slice (some ad) l0.length c0, .slice A1 l1.length c1, .string a2, .string a3, .string a4] 27 (0, 0)) from blk_alloc (w := w3.drew) HP3.out o)).1)
  have HAd := Aside0.mk (fun o => (cells3 (show ((w3.alloc o).drew).heap[w.heap.size + 1]? = some (Obj.cells #[.int .u8 v0, .int .u8 v1, .int .u8 v2] 28 (0, 0)) from blk_alloc HA3.out o)).2.1)
  have HAe := Aside0.mk (fun o => (cells3 (show (w3.drew.alloc o).heap[w.heap.size + 1]? = some (Obj.cells #[.int .u8 v0, .int .u8 v1, .int .u8 v2] 28 (0, 0)) from blk_alloc (w := w3.drew) HA3.out o)).2.1)
  clear t0 t2
  go_region_held3 (fun w' => w'.cell? ⟨w.heap.size, 0, none⟩ = some (.slice (some ad) l0.length c0) ∧ w'.cell? ⟨w.heap.size + 1, 1, none⟩ = some (.int .u8 v1) ∧ w'.cell? (ad.add (i1 * 7)) = some (.string x.f0) ∧ w'.cell? ⟨(ad.add (i1 * 7)).block, (ad.add (i1 * 7)).off + 1, none⟩ = some (.string x.f1) ∧ w'.cell? ⟨(ad.add (i1 * 7)).block, (ad.add (i1 * 7)).off + 2, none⟩ = some (.bool x.f2) ∧ w'.cell? ⟨(ad.add (i1 * 7)).block, (ad.add (i1 * 7)).off + 3, none⟩ = some (.bool x.f3) ∧ w'.cell? ⟨(ad.add (i1 * 7)).block, (ad.add (i1 * 7)).off + 4, none⟩ = some (.slice A4' x.f4.length c4') ∧ w'.cell? ⟨(ad.add (i1 * 7)).block, (ad.add (i1 * 7)).off + 5, none⟩ = some (.slice A5' x.f5.length c5') ∧ w'.cell? ⟨(ad.add (i1 * 7)).block, (ad.add (i1 * 7)).off + 6, none⟩ = some (.slice A6' x.f6.length c6')) (first | exact ⟨p0, t1, h0, h1, h2, h3, h4, h5, h6⟩ | exact ⟨HPd.out _, HAd.out _, (HD.out _).h0, (HD.out _).h1, (HD.out _).h2, (HD.out _).h3, (HD.out _).h4, (HD.out _).h5, (HD.out _).h6⟩ | exact ⟨HPe.out _, HAe.out _, (HE.out _).h0, (HE.out _).h1, (HE.out _).h2, (HE.out _).h3, (HE.out _).h4, (HE.out _).h5, (HE.out _).h6⟩) (fail)
  clear p0 t1 h0 h1 h2 h3 h4 h5 h6
  by_cases hm0 : x.f6.length = 0
  · have m1 : ((x.f6.length : Int) == 0) = true := by rw [hm0]; rfl
    have m2 : x.f6 = [] := List.length_eq_zero_iff.1 hm0
    go_wp2_with fail
    first
      | exact bodyPost_ret (results_tmp rfl _ _ _) rfl ⟨rfl, below_drew1 (below_alloc HB3.out _)⟩
      | exact bodyPost_ret (results_tmp rfl _ _ _) rfl ⟨rfl, below_alloc (below_drew1 HB3.out) _⟩
  · have m1 : ((x.f6.length : Int) == 0) = false := beq_eq_false_iff_ne.2 (by omega)
    have m2 : ¬ x.f6 = [] := fun e => hm0 (by rw [e]; rfl)
    have b4 : ¬ x.f6.length = 0 := hm0
    have b5 : (x.f6.length : Int) ≠ 0 := by omega
    obtain ⟨i2, hi2, e2⟩ : ∃ i : Nat, i < x.f6.length ∧ Int.tmod v2 (x.f6.length : Int) = (i : Int) := ⟨(Int.tmod v2 (x.f6.length : Int)).toNat, by have := Int.tmod_lt_of_pos v2 (show (0 : Int) < (x.f6.length : Int) by omega); have := Int.tmod_nonneg (x.f6.length : Int) hv2.1; omega, by have := Int.tmod_nonneg (x.f6.length : Int) hv2.1; omega⟩
    have hmx : x.f6.length ≤ 9223372036854775807 := (Kd.F_now (class_methods HFK1.out)).2.1
    have hrm2 : ∀ W, (binOp .rem 3 (.int .i64 v2) (.int .i64 (x.f6.length : Int))).run Try.prog W = .ok (.int .i64 (i2 : Int)) W := fun W => by simp [go_sem, b4, b5, m2, e2, IntWalk.i64_in (i2 : Int) (by omega)]
    obtain ⟨md, B5, d5, hA6, hMt, hFM⟩ := MeAt_of (class_methods HFK1.out) hi2
    subst hA6
    obtain ⟨y, hy⟩ : ∃ y, x.f6[i2] = y := ⟨_, rfl⟩
    rw [hy] at hMt hFM
    have HY := Aside0.mk hy
    have HMT := Aside0.mk hMt
    have HFM := Aside0.mk hFM
    clear hy hMt hFM
    go_wp2_with fail
    have HB4 := Aside0.mk (below_drew1 (below_alloc HB3.out (Obj.cells #[.string x.f0, .string x.f1, .bool x.f2, .bool x.f3, .slice A4' x.f4.length c4', .slice A5' x.f5.length c5', .slice (some md) x.f6.length c6'] 33)))
    have HP4 := Aside0.mk (show ((w3.alloc (Obj.cells #[.string x.f0, .string x.f1, .bool x.f2, .bool x.f3, .slice A4' x.f4.length c4', .slice A5' x.f5.length c5', .slice (some md) x.f6.length c6'] 33)).drew).heap[w.heap.size]? = some (Obj.cells #[.slice (some ad) l0.length c0, .slice A1 l1.length c1, .string a2, .string a3, .string a4] 27 (0, 0)) from blk_alloc HP3.out _)
    have HA4 := Aside0.mk (show ((w3.alloc (Obj.cells #[.string x.f0, .string x.f1, .bool x.f2, .bool x.f3, .slice A4' x.f4.length c4', .slice A5' x.f5.length c5', .slice (some md) x.f6.length c6'] 33)).drew).heap[w.heap.size + 1]? = some (Obj.cells #[.int .u8 v0, .int .u8 v1, .int .u8 v2] 28 (0, 0)) from blk_alloc HA3.out _)
    have HC4 := Aside0.mk (show ((w3.alloc (Obj.cells #[.string x.f0, .string x.f1, .bool x.f2, .bool x.f3, .slice A4' x.f4.length c4', .slice A5' x.f5.length c5', .slice (some md) x.f6.length c6'] 33)).drew).heap[w3.heap.size]? = some (Obj.cells #[.string x.f0, .string x.f1, .bool x.f2, .bool x.f3, .slice A4' x.f4.length c4', .slice A5' x.f5.length c5', .slice (some md) x.f6.length c6'] 33 (0, 0)) from World.alloc_heap_new w3 _)
    obtain ⟨w4, hw4⟩ : ∃ w4, (w3.alloc (Obj.cells #[.string x.f0, .string x.f1, .bool x.f2, .bool x.f3, .slice A4' x.f4.length c4', .slice A5' x.f5.length c5', .slice (some md) x.f6.length c6'] 33)).drew = w4 := ⟨_, rfl⟩
    rw [hw4] at HB4 HP4 HA4 HC4 ⊢
    obtain ⟨cb, hcb⟩ : ∃ n, w3.heap.size = n := ⟨_, rfl⟩
    rw [hcb] at HC4 ⊢
    obtain ⟨h0, h1, h2, h3, h4, h5⟩ := HMT.out.below HB4.out
    have k6 := (cells7 HC4.out).2.2.2.2.2.2
    have t2 := (cells3 HA4.out).2.2
    have HDm := Aside0.mk (fun o => HMT.out.below (below_drew1 (below_alloc HB4.out o)))
    have HEm := Aside0.mk (fun o => HMT.out.below (below_alloc (below_drew1 HB4.out) o))
    have HKd := Aside0.mk (fun o => (cells7 (show ((w4.alloc o).drew).heap[cb]? = some (Obj.cells #[.string x.f0, .string x.f1, .bool x.f2, .bool x.f3, .slice A4' x.f4.length c4', .slice A5' x.f5.length c5', .slice (some md) x.f6.length c6'] 33 (0, 0)) from blk_alloc HC4.out o)).2.2.2.2.2.2)
    have HKe := Aside0.mk (fun o => (cells7 (show (w4.drew.alloc o).heap[cb]? = some (Obj.cells #[.string x.f0, .string x.f1, .bool x.f2, .bool x.f3, .slice A4' x.f4.length c4', .slice A5' x.f5.length c5', .slice (some md) x.f6.length c6'] 33 (0, 0)) from blk_alloc (w := w4.drew) HC4.out o)).2.2.2.2.2.2)
    have HTd := Aside0.mk (fun o => (cells3 (show ((w4.alloc o).drew).heap[w.heap.size + 1]? = some (Obj.cells #[.int .u8 v0, .int .u8 v1, .int .u8 v2] 28 (0, 0)) from blk_alloc HA4.out o)).2.2)
    have HTe := Aside0.mk (fun o => (cells3 (show (w4.drew.alloc o).heap[w.heap.size + 1]? = some (Obj.cells #[.int .u8 v0, .int .u8 v1, .int .u8 v2] 28 (0, 0)) from blk_alloc (w := w4.drew) HA4.out o)).2.2)
    go_region_held3 (fun w' => w'.cell? ⟨cb, 6, none⟩ = some (.slice (some md) x.f6.length c6') ∧ w'.cell? ⟨w.heap.size + 1, 2, none⟩ = some (.int .u8 v2) ∧ w'.cell? (md.add (i2 * 6)) = some (.string y.f0) ∧ w'.cell? ⟨(md.add (i2 * 6)).block, (md.add (i2 * 6)).off + 1, none⟩ = some (.string y.f1) ∧ w'.cell? ⟨(md.add (i2 * 6)).block, (md.add (i2 * 6)).off + 2, none⟩ = some (.bool y.f2) ∧ w'.cell? ⟨(md.add (i2 * 6)).block, (md.add (i2 * 6)).off + 3, none⟩ = some (.bool y.f3) ∧ w'.cell? ⟨(md.add (i2 * 6)).block, (md.add (i2 * 6)).off + 4, none⟩ = some (.int .i64 y.f4) ∧ w'.cell? ⟨(md.add (i2 * 6)).block, (md.add (i2 * 6)).off + 5, none⟩ = some (.slice B5 y.f5.length d5)) (first | exact ⟨k6, t2, h0, h1, h2, h3, h4, h5⟩ | exact ⟨HKd.out _, HTd.out _, (HDm.out _).h0, (HDm.out _).h1, (HDm.out _).h2, (HDm.out _).h3, (HDm.out _).h4, (HDm.out _).h5⟩ | exact ⟨HKe.out _, HTe.out _, (HEm.out _).h0, (HEm.out _).h1, (HEm.out _).h2, (HEm.out _).h3, (HEm.out _).h4, (HEm.out _).h5⟩) (fail)
    clear h0 h1 h2 h3 h4 h5 k6 t2 HDm HEm HKd HKe HTd HTe
    have HB5 := Aside0.mk (below_drew1 (below_alloc HB4.out (Obj.cells #[.string y.f0, .string y.f1, .bool y.f2, .bool y.f3, .int .i64 y.f4, .slice B5 y.f5.length d5] 37)))
    have HP5 := Aside0.mk (show ((w4.alloc (Obj.cells #[.string y.f0, .string y.f1, .bool y.f2, .bool y.f3, .int .i64 y.f4, .slice B5 y.f5.length d5] 37)).drew).heap[w.heap.size]? = some (Obj.cells #[.slice (some ad) l0.length c0, .slice A1 l1.length c1, .string a2, .string a3, .string a4] 27 (0, 0)) from blk_alloc HP4.out _)
    have HY5 := Aside0.mk (show ((w4.alloc (Obj.cells #[.string y.f0, .string y.f1, .bool y.f2, .bool y.f3, .int .i64 y.f4, .slice B5 y.f5.length d5] 37)).drew).heap[w4.heap.size]? = some (Obj.cells #[.string y.f0, .string y.f1, .bool y.f2, .bool y.f3, .int .i64 y.f4, .slice B5 y.f5.length d5] 37 (0, 0)) from World.alloc_heap_new w4 _)
    obtain ⟨p0, p1, p2, p3, p4⟩ := cells5 HP5.out
    obtain ⟨y0, y1, y2, y3, y4, y5⟩ := cells6 HY5.out
    obtain ⟨xs, hxs⟩ : ∃ xs, xs = upF (l0.length + 1) l0 [] x0.f0 := ⟨_, rfl⟩
    have hsup : hier_Supers.f l0 l1 a2 a3 a4 x0.f0 = some xs := by unfold hier_Supers.f; rw [if_pos ⟨HH.out.2.2.1, by have := HH.out.2.2.2.1; omega⟩, hxs]
    obtain ⟨r1, r2, r3, r4, hdec⟩ : ∃ r1 r2 r3 r4, decF l0 xs y.f0 y.f1 = (r1, r2, r3, r4) := ⟨_, _, _, _, rfl⟩
    have HDIS := Aside0.mk (find_Dispatch.calls (some ad) c0 l0 A1 c1 l1 a2 a3 a4 x0.f0 y.f0 y.f1 r1 r2 r3 r4 _ (Kd.C_below HH.out.1 HB5.out) hc0 (Kd.C_below HH.out.2.1 HB5.out) hc1 (by unfold find_Dispatch.f; rw [hsup, Option.map_some, hdec]))
    have HDEC := Aside0.mk hdec
    have HSUP := Aside0.mk hsup
    clear hdec hsup hxs
    go_wp2_with fail
    refine HDIS.out.mono ?_
    rintro e w6 ⟨rfl, hb6⟩
    have HB6 := Aside0.mk (below_alloc (below_step HB5.out hb6) (Obj.cells #[.string r1, .string r2, .string r3] 25))
    have HP6 := Aside0.mk (blk_alloc (blk_below HP5.out hb6) (Obj.cells #[.string r1, .string r2, .string r3] 25))
    have HY6 := Aside0.mk (blk_alloc (blk_below HY5.out hb6) (Obj.cells #[.string r1, .string r2, .string r3] 25))
    have HR6 := Aside0.mk (World.alloc_heap_new w6 (Obj.cells #[.string r1, .string r2, .string r3] 25))
    have HSU := Aside0.mk (hier_Supers.calls (some ad) c0 l0 A1 c1 l1 a2 a3 a4 x0.f0 xs _ (Kd.C_below HH.out.1 HB6.out) hc0 (Kd.C_below HH.out.2.1 HB6.out) hc1 HSUP.out)
    clear hb6 p0 p1 p2 p3 p4 y0 y1 y2 y3 y4 y5
    obtain ⟨p0, p1, p2, p3, p4⟩ := cells5 HP6.out
    go_wp2_with fail
    refine HSU.out.mono ?_
    rintro e w7 ⟨v7, rfl, hR7, hb7⟩
    obtain ⟨A7, c7, rfl, hc7, hC7⟩ := Kd.R_reads hR7
    have HB7 := Aside0.mk (below_step HB6.out hb7)
    have HP7 := Aside0.mk (blk_below HP6.out hb7)
    have HY7 := Aside0.mk (blk_below HY6.out hb7)
    have HR7 := Aside0.mk (blk_below HR6.out hb7)
    have HC7 := Aside0.mk hC7
    clear hb7 hR7 hC7 p0 p1 p2 p3 p4
    go_wp2_with fail
    go_loopg [12] xs.length (fun kq v12 wr => ∃ i : Nat, v12 = .int .i64 (i : Int) ∧ i + kq = xs.length ∧ Aside0 (∀ j (hj : j < xs.length), j < i → hasM l0 xs[j] y.f0 y.f1 = false) ∧ Aside0 (Below w7.heap.size w7 wr))
    case atStart => exact ⟨0, rfl, by omega, ⟨fun j _ h => absurd h (Nat.not_lt_zero j)⟩, ⟨Below.refl _ _⟩⟩
    case round =>
      obtain ⟨i, rfl, hi, HNO, HBL⟩ := hrel
      have hmx7 := HC7.out.2.1
      by_cases hlt : i < xs.length
      · have hd : decide ((i : Int) < (xs.length : Int)) = true := decide_eq_true (by omega)
        obtain ⟨a7, hA7, hs7⟩ := Kd.at_string (Kd.C_below HC7.out HBL.out) (i : Int) (by omega) (by omega)
        subst hA7
        have hx7 : rdOf ByteArray.empty xs (i : Int) = xs[i] := by
          unfold rdOf
          rw [Int.toNat_natCast, List.getD_eq_getElem?_getD, List.getElem?_eq_getElem hlt]
          rfl
        rw [hx7, Int.toNat_natCast] at hs7
        obtain ⟨s7, hs7e⟩ : ∃ s, xs[i] = s := ⟨_, rfl⟩
        rw [hs7e] at hs7
        have HS7 := Aside0.mk hs7e
        have hq := Q14.mk (pb := w.heap.size) (yb := w4.heap.size) (a := a7.add i) HBL.out (blk_below HP7.out HBL.out) (blk_below HY7.out HBL.out) hs7
        have HQ := Aside0.mk hq
        have HBW := Aside0.mk (below_step HB7.out HBL.out)
        obtain ⟨p0, p1, p2, p3, p4, _, y0, y1⟩ := hq.S
        have HRr := Aside0.mk (blk_below HR7.out HBL.out)
        have HGT := Aside0.mk (fun W (hW : Below w.heap.size w W) => find_get (fun k => k < w.heap.size) (some ad) c0 l0 A1 c1 l1 a2 a3 a4 s7 y.f0 y.f1 W (Kd.F_below HF.out hW) hc0 (Kd.C_below HH.out.2.1 hW) hc1)
        obtain ⟨z, hz⟩ : ∃ z, getM l0 s7 y.f0 y.f1 = z := ⟨_, rfl⟩
        rw [hz] at HGT
        have HZ := Aside0.mk hz
        clear hz hs7e hx7 hq
        cases hhas : hasM l0 s7 y.f0 y.f1 with
        | false =>
          rw [hhas] at HGT
          have HHAS := Aside0.mk hhas
          clear hhas
          go_wp2_with fail
          go_region_held3 (fun w' => w'.cell? ⟨w.heap.size, 0, none⟩ = some (.slice (some ad) l0.length c0) ∧ w'.cell? ⟨w.heap.size, 1, none⟩ = some (.slice A1 l1.length c1) ∧ w'.cell? ⟨w.heap.size, 2, none⟩ = some (.string a2) ∧ w'.cell? ⟨w.heap.size, 3, none⟩ = some (.string a3) ∧ w'.cell? ⟨w.heap.size, 4, none⟩ = some (.string a4) ∧ w'.cell? (a7.add i) = some (.string s7) ∧ w'.cell? ⟨w4.heap.size, 0, none⟩ = some (.string y.f0) ∧ w'.cell? ⟨w4.heap.size, 1, none⟩ = some (.string y.f1)) (first | with_reducible exact ⟨p0, p1, p2, p3, p4, hs7, y0, y1⟩ | ((with_reducible refine Q14.S (HQ.out.below ?_)); first | with_reducible exact below_drew1 (Below.refl _ _) | with_reducible exact below_drew1 (below_alloc (Below.refl _ _) _) | with_reducible exact below_alloc (below_drew1 (Below.refl _ _)) _ | with_reducible exact HB8.out | with_reducible exact below_alloc HB8.out _ | with_reducible exact set6_below HB8.out (Nat.le_refl _) _ _ _ _ _ _ | fail "keep")) ((first
            | (go_at_call 11; (with_reducible refine (HGT.out _ (below_step HBW.out (below_drew1 (below_alloc (Below.refl _ _) (Obj.cells #[.string ⟨#[]⟩, .string ⟨#[]⟩, .bool false, .bool false, .int .i64 0, .slice none 0 0] 37))))).mono ?_); rintro e w8 ⟨B8, d8, rfl, hFM8, hb8⟩; have HB8 := Aside0.mk (below_step (below_drew1 (below_alloc (Below.refl wr.heap.size wr) (Obj.cells #[.string ⟨#[]⟩, .string ⟨#[]⟩, .bool false, .bool false, .int .i64 0, .slice none 0 0] 37))) hb8); have HZ8 := Aside0.mk (blk_below (w := (wr.alloc (Obj.cells #[.string ⟨#[]⟩, .string ⟨#[]⟩, .bool false, .bool false, .int .i64 0, .slice none 0 0] 37)).drew) (World.alloc_heap_new wr (Obj.cells #[.string ⟨#[]⟩, .string ⟨#[]⟩, .bool false, .bool false, .int .i64 0, .slice none 0 0] 37)) hb8); obtain ⟨z0, z1, z2, z3, z4, z5⟩ := cells6 HZ8.out; have zf := blk_frozen HZ8.out; clear hb8)
            | (go_at_call 11; (with_reducible refine (HGT.out _ (below_step HBW.out (below_drew1 (Below.refl _ _)))).mono ?_); rintro e w8 ⟨B8, d8, rfl, hFM8, hb8⟩; have HB8 := Aside0.mk (below_step (below_drew1 (Below.refl wr.heap.size wr)) hb8); clear hb8)))
          all_goals go_wp2_with fail
          all_goals (
            go_roundg (gk - 1)
            case measure => omega
            case rel =>
              refine ⟨i + 1, by simp, by omega, ⟨fun j hj hji => ?_⟩, ⟨below_step HBL.out (by first | with_reducible exact set6_below HB8.out (Nat.le_refl _) _ _ _ _ _ _ | with_reducible exact below_alloc HB8.out _)⟩⟩
              by_cases e : j = i
              · subst e
                rw [HS7.out]
                exact HHAS.out
              · exact HNO.out j hj (by omega))
        | true =>
          rw [hhas] at HGT
          have HHAS := Aside0.mk hhas
          clear hhas
          go_wp2_with fail
          go_region_held3 (fun w' => w'.cell? ⟨w.heap.size, 0, none⟩ = some (.slice (some ad) l0.length c0) ∧ w'.cell? ⟨w.heap.size, 1, none⟩ = some (.slice A1 l1.length c1) ∧ w'.cell? ⟨w.heap.size, 2, none⟩ = some (.string a2) ∧ w'.cell? ⟨w.heap.size, 3, none⟩ = some (.string a3) ∧ w'.cell? ⟨w.heap.size, 4, none⟩ = some (.string a4) ∧ w'.cell? (a7.add i) = some (.string s7) ∧ w'.cell? ⟨w4.heap.size, 0, none⟩ = some (.string y.f0) ∧ w'.cell? ⟨w4.heap.size, 1, none⟩ = some (.string y.f1)) (first | with_reducible exact ⟨p0, p1, p2, p3, p4, hs7, y0, y1⟩ | ((with_reducible refine Q14.S (HQ.out.below ?_)); first | with_reducible exact below_drew1 (Below.refl _ _) | with_reducible exact below_drew1 (below_alloc (Below.refl _ _) _) | with_reducible exact below_alloc (below_drew1 (Below.refl _ _)) _ | with_reducible exact HB8.out | with_reducible exact below_alloc HB8.out _ | with_reducible exact set6_below HB8.out (Nat.le_refl _) _ _ _ _ _ _ | fail "keep")) ((first
            | (go_at_call 11; (with_reducible refine (HGT.out _ (below_step HBW.out (below_drew1 (below_alloc (Below.refl _ _) (Obj.cells #[.string ⟨#[]⟩, .string ⟨#[]⟩, .bool false, .bool false, .int .i64 0, .slice none 0 0] 37))))).mono ?_); rintro e w8 ⟨B8, d8, rfl, hFM8, hb8⟩; have HB8 := Aside0.mk (below_step (below_drew1 (below_alloc (Below.refl wr.heap.size wr) (Obj.cells #[.string ⟨#[]⟩, .string ⟨#[]⟩, .bool false, .bool false, .int .i64 0, .slice none 0 0] 37))) hb8); have HZ8 := Aside0.mk (blk_below (w := (wr.alloc (Obj.cells #[.string ⟨#[]⟩, .string ⟨#[]⟩, .bool false, .bool false, .int .i64 0, .slice none 0 0] 37)).drew) (World.alloc_heap_new wr (Obj.cells #[.string ⟨#[]⟩, .string ⟨#[]⟩, .bool false, .bool false, .int .i64 0, .slice none 0 0] 37)) hb8); obtain ⟨z0, z1, z2, z3, z4, z5⟩ := cells6 HZ8.out; have zf := blk_frozen HZ8.out; clear hb8)
            | (go_at_call 11; (with_reducible refine (HGT.out _ (below_step HBW.out (below_drew1 (Below.refl _ _)))).mono ?_); rintro e w8 ⟨B8, d8, rfl, hFM8, hb8⟩; have HB8 := Aside0.mk (below_step (below_drew1 (Below.refl wr.heap.size wr)) hb8); clear hb8)))
          · have hb9 := below_alloc HB8.out (Obj.cells #[.string z.f0, .string z.f1, .bool z.f2, .bool z.f3, .int .i64 z.f4, .slice B8 z.f5.length d8] 37)
            have HQ16 := Aside0.mk (Q16.mk (R := w8.heap.size) (zc := #[.string z.f0, .string z.f1, .bool z.f2, .bool z.f3, .int .i64 z.f4, .slice B8 z.f5.length d8]) (World.alloc_heap_new w8 (Obj.cells #[.string z.f0, .string z.f1, .bool z.f2, .bool z.f3, .int .i64 z.f4, .slice B8 z.f5.length d8] 37)) (blk_below HQ.out.y hb9) (blk_below HRr.out hb9) ((hb9.cell (cell_lt HQ.out.s)).trans HQ.out.s))
            have HB9 := Aside0.mk (below_step HBW.out hb9)
            have hdc := dec_cases hlt HS7.out HNO.out HHAS.out HZ.out HDEC.out
            clear hb9 HQ HB8
            go_wp2_with fail
            rcases hdc with ⟨q2, q4⟩ | ⟨q2, q3, q4⟩ | ⟨q2, q3, qn, q4⟩ | ⟨q2, q3, qn, q4, q1⟩
            · subst q4; rw [q2] at HQ16 HB9 ⊢; clear q2
              obtain ⟨e2_, e3_, e4_, e5_, e6_⟩ := HQ16.out.S
              go_quiet (fail)
              all_goals go_wp2_with fail
              all_goals exact bodyPost_ret (results_tmp rfl _ _ _) rfl ⟨rfl, by first | exact pw_below_drewN HB9.out _ | exact HB9.out⟩
            · subst q4; rw [q2, q3] at HQ16 HB9 ⊢; clear q2 q3
              obtain ⟨e2_, e3_, e4_, e5_, e6_⟩ := HQ16.out.S
              go_quiet (fail)
              all_goals go_wp2_with fail
              all_goals exact bodyPost_ret (results_tmp rfl _ _ _) rfl ⟨rfl, by first | exact pw_below_drewN HB9.out _ | exact HB9.out⟩
            · have n1 : (y.f0.toList == [60, 99, 108, 105, 110, 105, 116, 62]) = true := beq_iff_eq.2 qn; have n2 : (y.f0.toList != [60, 99, 108, 105, 110, 105, 116, 62]) = false := (by rw [qn]; rfl); clear qn; subst q4; rw [q2, q3] at HQ16 HB9 ⊢; clear q2 q3
              obtain ⟨e2_, e3_, e4_, e5_, e6_⟩ := HQ16.out.S
              go_quiet (fail)
              all_goals go_wp2_with fail
              all_goals exact bodyPost_ret (results_tmp rfl _ _ _) rfl ⟨rfl, by first | exact pw_below_drewN HB9.out _ | exact HB9.out⟩
            · have n1 : (y.f0.toList == [60, 99, 108, 105, 110, 105, 116, 62]) = false := beq_eq_false_iff_ne.2 qn; have n2 : (y.f0.toList != [60, 99, 108, 105, 110, 105, 116, 62]) = true := bne_iff_ne.2 qn; clear qn; obtain rfl := q1; subst q4; rw [q2, q3] at HQ16 HB9 ⊢; clear q2 q3
              obtain ⟨e2_, e3_, e4_, e5_, e6_⟩ := HQ16.out.S
              go_quiet (fail)
              all_goals go_wp2_with fail
              all_goals exact bodyPost_ret (results_tmp rfl _ _ _) rfl ⟨rfl, by first | exact pw_below_drewN HB9.out _ | exact HB9.out⟩
          · have hb9 := set6_below HB8.out (Nat.le_refl _) (.string z.f0) (.string z.f1) (.bool z.f2) (.bool z.f3) (.int .i64 z.f4) (.slice B8 z.f5.length d8)
            have HQ16 := Aside0.mk (Q16.mk (R := wr.heap.size) (zc := #[.string z.f0, .string z.f1, .bool z.f2, .bool z.f3, .int .i64 z.f4, .slice B8 z.f5.length d8]) (set6_own HZ8.out (.string z.f0) (.string z.f1) (.bool z.f2) (.bool z.f3) (.int .i64 z.f4) (.slice B8 z.f5.length d8)) (blk_below HQ.out.y hb9) (blk_below HRr.out hb9) ((hb9.cell (cell_lt HQ.out.s)).trans HQ.out.s))
            have HB9 := Aside0.mk (below_step HBW.out hb9)
            have hdc := dec_cases hlt HS7.out HNO.out HHAS.out HZ.out HDEC.out
            clear hb9 HQ HB8
            go_wp2_with fail
            rcases hdc with ⟨q2, q4⟩ | ⟨q2, q3, q4⟩ | ⟨q2, q3, qn, q4⟩ | ⟨q2, q3, qn, q4, q1⟩
            · subst q4; rw [q2] at HQ16 HB9 ⊢; clear q2
              obtain ⟨e2_, e3_, e4_, e5_, e6_⟩ := HQ16.out.S
              go_quiet (fail)
              all_goals go_wp2_with fail
              all_goals exact bodyPost_ret (results_tmp rfl _ _ _) rfl ⟨rfl, by first | exact pw_below_drewN HB9.out _ | exact HB9.out⟩
            · subst q4; rw [q2, q3] at HQ16 HB9 ⊢; clear q2 q3
              obtain ⟨e2_, e3_, e4_, e5_, e6_⟩ := HQ16.out.S
              go_quiet (fail)
              all_goals go_wp2_with fail
              all_goals exact bodyPost_ret (results_tmp rfl _ _ _) rfl ⟨rfl, by first | exact pw_below_drewN HB9.out _ | exact HB9.out⟩
            · have n1 : (y.f0.toList == [60, 99, 108, 105, 110, 105, 116, 62]) = true := beq_iff_eq.2 qn; have n2 : (y.f0.toList != [60, 99, 108, 105, 110, 105, 116, 62]) = false := (by rw [qn]; rfl); clear qn; subst q4; rw [q2, q3] at HQ16 HB9 ⊢; clear q2 q3
              obtain ⟨e2_, e3_, e4_, e5_, e6_⟩ := HQ16.out.S
              go_quiet (fail)
              all_goals go_wp2_with fail
              all_goals exact bodyPost_ret (results_tmp rfl _ _ _) rfl ⟨rfl, by first | exact pw_below_drewN HB9.out _ | exact HB9.out⟩
            · have n1 : (y.f0.toList == [60, 99, 108, 105, 110, 105, 116, 62]) = false := beq_eq_false_iff_ne.2 qn; have n2 : (y.f0.toList != [60, 99, 108, 105, 110, 105, 116, 62]) = true := bne_iff_ne.2 qn; clear qn; obtain rfl := q1; subst q4; rw [q2, q3] at HQ16 HB9 ⊢; clear q2 q3
              obtain ⟨e2_, e3_, e4_, e5_, e6_⟩ := HQ16.out.S
              go_quiet (fail)
              all_goals go_wp2_with fail
              all_goals exact bodyPost_ret (results_tmp rfl _ _ _) rfl ⟨rfl, by first | exact pw_below_drewN HB9.out _ | exact HB9.out⟩
      · have hd : decide ((i : Int) < (xs.length : Int)) = false := decide_eq_false (by omega)
        have hall : xs.find? (fun s => hasM l0 s y.f0 y.f1) = none := List.find?_eq_none.2 (fun s hs => by
          obtain ⟨j, hj, rfl⟩ := List.mem_iff_getElem.1 hs
          rw [HNO.out j hj (by omega)]
          decide)
        have hr4 : r4 = false := by
          have h := HDEC.out
          unfold decF at h
          rw [hall] at h
          simp only [Prod.mk.injEq] at h
          exact h.2.2.2.symm
        subst hr4
        have HBE := Aside0.mk (below_step HB7.out HBL.out)
        go_wp2_with fail
        exact bodyPost_ret (results_tmp rfl _ _ _) rfl ⟨rfl, HBE.out⟩
theorem TopNearest_go (A0 : Option Addr) (c0 : Nat) (l0 : List S33) (A1 : Option Addr) (c1 : Nat) (l1 : List ByteArray) (a2 a3 a4 : ByteArray) (v0 v1 v2 : Int) (w : World) (hr0 : Kd.C k33 w A0 l0.length l0) (hc0 : l0.length ≤ c0) (hr1 : Kd.C Kd.string w A1 l1.length l1) (hc1 : l1.length ≤ c1) (hz : ∀ c ∈ l0, c.f0.size ≤ 9223372036854775807) (hv0 : 0 ≤ v0 ∧ v0 ≤ 255) (hv1 : 0 ≤ v1 ∧ v1 ≤ 255) (hv2 : 0 ≤ v2 ∧ v2 ≤ 255) :
    Calls Try.prog 3 #[.agg #[.slice A0 l0.length c0, .slice A1 l1.length c1, .string a2, .string a3, .string a4], .agg #[.int .u8 v0, .int .u8 v1, .int .u8 v2]] w fun e w' => e = .returned (.bool true) ∧ Below w.heap.size w w' := by
  obtain ⟨k, r, hg, hr⟩ := Pure.great_ends l0 l1 a2 a3 a4
  cases r with
  | true => exact top_great A0 c0 l0 A1 c1 l1 a2 a3 a4 v0 v1 v2 w hr0 hc0 hr1 hc1 k hg
  | false =>
    cases l0 with
    | nil => exact top_empty A0 c0 A1 c1 l1 a2 a3 a4 v0 v1 v2 w hr0 hc0 hr1 hc1 k hg
    | cons x xs => exact top_some A0 c0 (x :: xs) A1 c1 l1 a2 a3 a4 v0 v1 v2 hv0 hv1 hv2 w hr0 hc0 hr1 hc1 k hg (hr rfl) (Nat.zero_lt_succ _) hz
end Go.Proofs.Ytfplcohjnlbfjaa.Hand
end

section
namespace Go.Proofs.Ytfplcohjnlbfjaa.Hand
open Go.ChangeShapes Go.WideShapes Go.ChangeAt Go.RowKit Go.Proofs.YtfplcohjnlbfjaaW.PrintWords Go.Proofs.YtfplcohjnlbfjaaW.PrintLast Go.Proofs.YtfplcohjnlbfjaaW.PrintMore
section
variable {H : Type} {enc : TypeId × Value → H} {P : Program} {w : World} {base : Nat} {spare : Nat → Bool} {held : Bool}
end
end Go.Proofs.Ytfplcohjnlbfjaa.Hand
end

section
namespace Go.Proofs.Ytfplcohjnlbfjaa.Hand
open Go.ChangeShapes Go.WideShapes Go.ChangeAt Go.Joins Go.Deep Go.RowKit Go.Proofs.YtfplcohjnlbfjaaW.PrintWords Go.Proofs.YtfplcohjnlbfjaaW.PrintLast Go.Proofs.YtfplcohjnlbfjaaW.PrintMore
set_option linter.unusedVariables false
namespace Op
theorem list_each {α : Type} {Q : Nat → α → Prop} : ∀ (n : Nat), (∀ i, i < n → ∃ a, Q i a) → ∃ l : List α, l.length = n ∧ ∀ i a, l[i]? = some a → Q i a
  | 0, _ => ⟨[], rfl, fun i a h => by simp at h⟩
  | n + 1, h => by
    obtain ⟨l, hl, hq⟩ := list_each n fun i hi => h i (by omega)
    obtain ⟨a, ha⟩ := h n (by omega)
    refine ⟨l ++ [a], by simp [hl], fun i b hb => ?_⟩
    by_cases hi : i < l.length
    · rw [List.getElem?_append_left hi] at hb
      exact hq i b hb
    · rw [List.getElem?_append_right (by omega)] at hb
      have h0 : i - l.length = 0 := by
        have := (List.getElem?_eq_some_iff.1 hb).1
        simp at this
        omega
      rw [h0] at hb
      simp at hb
      have : i = n := by omega
      rw [this, ← hb]
      exact ha
theorem add_add (a : Addr) (i j : Nat) : (a.add i).add j = a.add (i + j) := by
  unfold Addr.add
  by_cases hi : i = 0
  · subst hi; simp
  · by_cases hj : j = 0
    · subst hj; simp
    · rw [if_neg hi, if_neg hj, if_neg (by omega), Nat.add_assoc]
theorem cells_each {w : World} {base n : Nat} {a : Addr} {cs : List Value} (h : w.cells? base a n = some cs) : cs.length = n ∧ ∀ j u, cs[j]? = some u → w.cell? (a.add j) = some u := by
  unfold World.cells? at h
  split at h
  · have hl := mapM_some_length h
    rw [List.length_range] at hl
    refine ⟨hl, fun j u hu => ?_⟩
    have hj := (List.getElem?_eq_some_iff.1 hu).1
    have hg := mapM_some_get h j j (by rw [List.getElem?_range (by omega)])
    rw [hg, hu]
  · cases h
section
variable {H : Type} {enc : TypeId × Value → H} {P : Program} {w : World} {base : Nat} {spare : Nat → Bool} {held : Bool}
theorem weights_all {t : TypeId} : ∀ {l : List (DataW H)} {d : DataW H}, d ∈ l → ∀ n ∈ d.weights P t, n ∈ DataW.weightsAll P t l
  | a :: l, d, hd, n, hn => by
    simp only [DataW.weightsAll, List.mem_append]
    rcases List.mem_cons.1 hd with rfl | hd
    · exact .inl hn
    · exact .inr (weights_all hd n hn)
def Opens (enc : TypeId × Value → H) (P : Program) (w : World) (base : Nat) (spare : Nat → Bool) (held : Bool) {α : Type} (kd : Kd α) (Q : α → Prop) (t : TypeId) : Prop :=
  ∀ (n : Nat) (cs : List Value) (x : DataW H × List MemPlace), DataW.trod enc P w base spare held n t cs = some x → (∀ m ∈ x.1.weights P t, m ≤ reachBytes) → ∃ a, kd.K w a cs ∧ Q a
theorem opens_str {t : TypeId} (ht : P.underlying t = some .string) : Opens enc P w base spare held Kd.string (fun s => s.size ≤ 140737488351232) t := by
  intro n cs x h hw
  obtain ⟨s, rfl, rfl, _⟩ := DataW.trod_string ht h
  have h2 := hw s.data.toList.length (by simp [DataW.weights])
  rw [Array.length_toList] at h2
  exact ⟨s, rfl, h2⟩
theorem opens_bool {t : TypeId} (ht : P.underlying t = some .bool) : Opens enc P w base spare held Kd.bool (fun _ => True) t := by
  intro n cs x h hw
  obtain ⟨b, rfl, rfl⟩ := DataW.trod_bool ht h
  exact ⟨b, rfl, trivial⟩
theorem opens_int {k : IntKind} {t : TypeId} (ht : P.underlying t = some (.int k)) : Opens enc P w base spare held (Kd.int k) (fun i => (Lit.int k i).wf = true) t := by
  intro n cs x h hw
  obtain ⟨i, rfl, rfl, hwf⟩ := DataW.trod_int ht h
  exact ⟨i, rfl, hwf⟩
theorem opens_slice {α : Type} {kd : Kd α} {Q : α → Prop} {t e : TypeId} (ht : P.underlying t = some (.slice e)) (hc : P.cellsOf e = kd.sz) (hB : 1 ≤ P.bytesOf e) (ho : Opens enc P w base spare held kd Q e) :
    Opens enc P w base spare held (Kd.slice e kd) (fun l => l.length ≤ 140737488351232 ∧ ∀ x ∈ l, Q x) t := by
  intro fuel cs d hf hw
  rcases DataW.trod_slice ht hf with ⟨rfl, _⟩ | ⟨x, len, cap, elems, rest, n, _, rfl, hx, hb, hl, hm, hlen, hel, _, _⟩
  · exact ⟨[], ⟨none, 0, rfl, Nat.le_refl _, ⟨rfl, Nat.zero_le _, fun h => absurd h (Nat.lt_irrefl 0)⟩⟩, Nat.zero_le _, by simp⟩
  · subst hx
    have hlw : len ≤ 140737488351232 := by
      have h1 := hw ((elems.map (·.1)).length * P.bytesOf e + (rest.map (·.1)).length * P.bytesOf e) (by simp [DataW.weights, ht, Nat.add_mul])
      rw [List.length_map, hlen] at h1
      have h2 : len * 1 ≤ len * P.bytesOf e := Nat.mul_le_mul_left _ hB
      have h3 : reachBytes = 140737488351232 := rfl
      omega
    have each : ∀ i, i < len → ∃ y : α, Q y ∧ ∃ cs : List Value, cs.length = kd.sz ∧ kd.K w y cs ∧ ∀ j u, cs[j]? = some u → w.cell? (x.add (i * kd.sz + j)) = some u := by
      intro i hi
      have h1 := hel i hi
      have hi2 : i < elems.length := by omega
      rw [List.getElem?_eq_getElem hi2, hc, Option.bind_eq_some_iff] at h1
      obtain ⟨cs, h2, h3⟩ := h1
      obtain ⟨y, h4, h5⟩ := ho _ _ _ h3 (fun m hm => hw m (by
        simp only [DataW.weights, ht, List.mem_cons, List.mem_append]
        exact .inr (.inl (weights_all (List.mem_map_of_mem (List.getElem_mem hi2)) m hm))))
      obtain ⟨h6, h7⟩ := cells_each h2
      refine ⟨y, h5, cs, h6, h4, fun j z hz => ?_⟩
      have h8 := h7 j z hz
      rw [add_add] at h8
      exact h8
    obtain ⟨ls, hls, hq⟩ := list_each len each
    have hmx : len ≤ 9223372036854775807 := by omega
    refine ⟨ls, ⟨some x, cap, by rw [hls], by rw [hls]; exact hl, ⟨rfl, by rw [hls]; exact hmx, fun _ => ⟨x, rfl, fun j p hp => ?_⟩⟩⟩, by rw [hls]; exact hlw, fun y hy => ?_⟩
    · obtain ⟨_, cs, h1, h2, h3⟩ := hq j p hp
      exact ⟨cs, h1, h2, fun i u hu => h3 i u hu⟩
    · obtain ⟨i, hi⟩ := List.getElem?_of_mem hy
      exact (hq i y hi).1
def Fields (enc : TypeId × Value → H) (P : Program) (w : World) (base : Nat) (spare : Nat → Bool) (held : Bool) {α : Type} (kd : Kd α) (Q : α → Prop) (fs : List Field) (o : Nat) : Prop :=
  ∀ (n : Nat) (cs : List Value) (xs : List (DataW H × List MemPlace)), cs.length = o + kd.sz → xs.length = fs.length →
    (∀ (i : Nat) (f : Field), fs[i]? = some f → DataW.trod enc P w base spare held n f.type ((cs.drop f.offset).take (P.cellsOf f.type)) = xs[i]?) →
    (∀ (i : Nat) (f : Field) (x : DataW H × List MemPlace), fs[i]? = some f → xs[i]? = some x → ∀ m ∈ x.1.weights P f.type, m ≤ reachBytes) → ∃ a, kd.K w a (cs.drop o) ∧ Q a
theorem fields_one {α : Type} {kd : Kd α} {Q : α → Prop} {f : Field} {o : Nat} (hoff : f.offset = o) (hc : P.cellsOf f.type = kd.sz) (ho : Opens enc P w base spare held kd Q f.type) : Fields enc P w base spare held kd Q [f] o := by
  intro n cs xs hl hx hf hw
  match xs, hx with
  | [y], _ =>
    have h := hf 0 f rfl
    rw [hoff, hc, List.take_of_length_le (by rw [List.length_drop]; omega)] at h
    exact ho _ _ _ h (hw 0 f y rfl rfl)
theorem fields_cons {α β : Type} {k1 : Kd α} {k2 : Kd β} {Q1 : α → Prop} {Q2 : β → Prop} {f : Field} {fs : List Field} {o : Nat} (hoff : f.offset = o) (hc : P.cellsOf f.type = k1.sz) (ho : Opens enc P w base spare held k1 Q1 f.type)
    (h2 : Fields enc P w base spare held k2 Q2 fs (o + k1.sz)) : Fields enc P w base spare held (Kd.pair k1 k2) (fun p => Q1 p.1 ∧ Q2 p.2) (f :: fs) o := by
  intro n cs xs hl hx hf hw
  have hl' : cs.length = o + (k1.sz + k2.sz) := hl
  match xs, hx with
  | y :: ys, hx =>
    have h := hf 0 f rfl
    rw [hoff, hc] at h
    obtain ⟨a, ha, qa⟩ := ho _ _ _ h (hw 0 f y rfl rfl)
    obtain ⟨b, hb, qb⟩ := h2 n cs ys (by omega) (by simpa using hx) (fun i g hg => by have := hf (i + 1) g (by simpa using hg); simpa using this) (fun i g x hg hx => hw (i + 1) g x (by simpa using hg) (by simpa using hx))
    refine ⟨(a, b), ⟨(cs.drop o).take k1.sz, cs.drop (o + k1.sz), ?_, ha, hb⟩, qa, qb⟩
    rw [← List.drop_drop, List.take_append_drop]
theorem weights_fields : ∀ {fs : List Field} {xs : List (DataW H × List MemPlace)} {i : Nat} {f : Field} {x : DataW H × List MemPlace}, fs[i]? = some f → xs[i]? = some x → ∀ m ∈ x.1.weights P f.type, m ∈ DataW.weightsEach P (fs.map (·.type)) (xs.map (·.1))
  | [], _, i, f, x, hf, _, _, _ => by simp at hf
  | _ :: _, [], i, f, x, _, hx, _, _ => by simp at hx
  | g :: fs, y :: ys, 0, f, x, hf, hx, m, hm => by
    simp at hf hx
    subst hf hx
    simp only [List.map_cons, DataW.weightsEach, List.mem_append]
    exact .inl hm
  | g :: fs, y :: ys, i + 1, f, x, hf, hx, m, hm => by
    simp only [List.map_cons, DataW.weightsEach, List.mem_append]
    exact .inr (weights_fields (fs := fs) (xs := ys) (i := i) (by simpa using hf) (by simpa using hx) m hm)
theorem opens_struct {α : Type} {kd : Kd α} {Q : α → Prop} {t : TypeId} {fs : Array Field} (ht : P.underlying t = some (.struct fs)) (hc : P.cellsOf t = kd.sz) (hf : Fields enc P w base spare held kd Q fs.toList 0) : Opens enc P w base spare held kd Q t := by
  intro fuel cs x h hw
  obtain ⟨xs, m, _, rfl, hl, hlen, hi⟩ := DataW.trod_struct ht h
  obtain ⟨a, ha, hq⟩ := hf m cs xs (by omega) (by simpa using hlen) (fun i f hf => hi i f (by simpa using hf)) (fun i f x hf hx n hn => hw n (by
    simp only [DataW.weights, ht]
    exact weights_fields hf hx n hn))
  exact ⟨a, by simpa using ha, hq⟩
theorem opens_iso {α β : Type} {kd : Kd α} {Q : α → Prop} {t : TypeId} {f : β → α} (g : α → β) (hg : ∀ a, f (g a) = a) (ho : Opens enc P w base spare held kd Q t) : Opens enc P w base spare held (Kd.iso kd f) (fun b => Q (f b)) t := by
  intro n cs x h hw
  obtain ⟨a, ha, hq⟩ := ho n cs x h hw
  exact ⟨g a, by show kd.K w (f (g a)) cs; rw [hg]; exact ha, by show Q (f (g a)); rw [hg]; exact hq⟩
theorem opens_mono {α : Type} {kd : Kd α} {Q Q' : α → Prop} {t : TypeId} (ho : Opens enc P w base spare held kd Q t) (h : ∀ a, Q a → Q' a) : Opens enc P w base spare held kd Q' t := by
  intro n cs x hx hw
  obtain ⟨a, ha, hq⟩ := ho n cs x hx hw
  exact ⟨a, ha, h a hq⟩
theorem open_agg {α : Type} {kd : Kd α} {Q : α → Prop} {t : TypeId} {fs : Array Field} {r : Reach} {b0 : Nat} {v : Value} {d : DataW H} {ps : List MemPlace} (ht : P.underlying t = some (.struct fs)) (ho : Opens enc P w base spare held kd Q t)
    (hw : ∀ n ∈ d.weights P t, n ≤ reachBytes) (hval : Value.okWide P w r b0 t v) (hd : DataW.Trod enc P w base spare held t v d ps) : ∃ a cs, v = .agg ⟨cs⟩ ∧ kd.K w a cs ∧ Q a := by
  obtain ⟨⟨cs⟩, rfl, _⟩ := okWide_struct ht hval
  obtain ⟨fuel, hf⟩ := hd
  obtain ⟨a, ha, hq⟩ := ho _ _ _ hf hw
  exact ⟨a, cs, rfl, ha, hq⟩
end
end Op
end Go.Proofs.Ytfplcohjnlbfjaa.Hand
end

section
namespace Go.Proofs.Ytfplcohjnlbfjaa.Hand
open Go.ChangeShapes Go.WideShapes Go.ChangeAt Go.Joins Go.Deep Go.RowKit Go.Proofs.YtfplcohjnlbfjaaW.PrintWords Go.Proofs.YtfplcohjnlbfjaaW.PrintLast Go.Proofs.YtfplcohjnlbfjaaW.PrintMore
set_option linter.unusedVariables false
set_option maxRecDepth 20000
namespace Op
section
variable {H : Type} {enc : TypeId × Value → H} {w : World} {base : Nat} {spare : Nat → Bool} {held : Bool}
def QType (x : S97) : Prop := x.f1.size ≤ 140737488351232
def QField (x : S103) : Prop := x.f0.size ≤ 140737488351232 ∧ QType x.f1
def QInstr (x : S74) : Prop := (Lit.int .i64 x.f0).wf = true ∧ (Lit.int .i64 x.f1).wf = true ∧ (Lit.int .i64 x.f2).wf = true ∧ (Lit.int .i64 x.f3).wf = true ∧ (Lit.int .i64 x.f4).wf = true ∧ x.f5.size ≤ 140737488351232 ∧ x.f6.size ≤ 140737488351232 ∧ x.f7.size ≤ 140737488351232 ∧ x.f8.length ≤ 140737488351232 ∧ ∀ i ∈ x.f8, (Lit.int .i64 i).wf = true
def QMethod (x : S37) : Prop := x.f0.size ≤ 140737488351232 ∧ x.f1.size ≤ 140737488351232 ∧ (Lit.int .i64 x.f4).wf = true ∧ x.f5.length ≤ 140737488351232 ∧ ∀ i ∈ x.f5, QInstr i
def QClass (x : S33) : Prop := x.f0.size ≤ 140737488351232 ∧ x.f1.size ≤ 140737488351232 ∧ (x.f4.length ≤ 140737488351232 ∧ ∀ s ∈ x.f4, s.size ≤ 140737488351232) ∧ (x.f5.length ≤ 140737488351232 ∧ ∀ s ∈ x.f5, QField s) ∧ (x.f6.length ≤ 140737488351232 ∧ ∀ s ∈ x.f6, QMethod s)
theorem opens_type : Opens enc Try.prog w base spare held k97 QType 97 :=
  opens_mono (opens_iso (fun p => ⟨p.1, p.2⟩) (fun _ => rfl) (opens_struct Try.underlying97 (by kernel_rfl) (fields_cons rfl (by kernel_rfl) (opens_int Try.underlying95) (fields_one rfl (by kernel_rfl) (opens_str Try.underlying9))))) (fun a h => h.2)
theorem opens_field : Opens enc Try.prog w base spare held k103 QField 103 :=
  opens_mono (opens_iso (fun p => ⟨p.1, p.2.1, p.2.2⟩) (fun _ => rfl) (opens_struct Try.underlying103 (by kernel_rfl) (fields_cons rfl (by kernel_rfl) (opens_str Try.underlying9) (fields_cons rfl (by kernel_rfl) opens_type (fields_one rfl (by kernel_rfl) (opens_bool Try.underlying4)))))) (fun a h => ⟨h.1, h.2.1⟩)
theorem opens_instr : Opens enc Try.prog w base spare held k74 QInstr 74 :=
  opens_mono (opens_iso (fun p => ⟨p.1, p.2.1, p.2.2.1, p.2.2.2.1, p.2.2.2.2.1, p.2.2.2.2.2.1, p.2.2.2.2.2.2.1, p.2.2.2.2.2.2.2.1, p.2.2.2.2.2.2.2.2⟩) (fun _ => rfl) (opens_struct Try.underlying74 (by kernel_rfl)
    (fields_cons rfl (by kernel_rfl) (opens_int Try.underlying72) (fields_cons rfl (by kernel_rfl) (opens_int Try.underlying3) (fields_cons rfl (by kernel_rfl) (opens_int Try.underlying3) (fields_cons rfl (by kernel_rfl) (opens_int Try.underlying3) (fields_cons rfl (by kernel_rfl) (opens_int Try.underlying2)
      (fields_cons rfl (by kernel_rfl) (opens_str Try.underlying9) (fields_cons rfl (by kernel_rfl) (opens_str Try.underlying9) (fields_cons rfl (by kernel_rfl) (opens_str Try.underlying9) (fields_one rfl (by kernel_rfl) (opens_slice Try.underlying58 (by kernel_rfl) (of_decide_eq_true (by kernel_rfl)) (opens_int Try.underlying3))))))))))))) (fun a h => ⟨h.1, h.2.1, h.2.2.1, h.2.2.2.1, h.2.2.2.2.1, h.2.2.2.2.2.1, h.2.2.2.2.2.2.1, h.2.2.2.2.2.2.2.1, h.2.2.2.2.2.2.2.2.1, h.2.2.2.2.2.2.2.2.2⟩)
theorem opens_method : Opens enc Try.prog w base spare held k37 QMethod 37 :=
  opens_mono (opens_iso (fun p => ⟨p.1, p.2.1, p.2.2.1, p.2.2.2.1, p.2.2.2.2.1, p.2.2.2.2.2⟩) (fun _ => rfl) (opens_struct Try.underlying37 (by kernel_rfl)
    (fields_cons rfl (by kernel_rfl) (opens_str Try.underlying9) (fields_cons rfl (by kernel_rfl) (opens_str Try.underlying9) (fields_cons rfl (by kernel_rfl) (opens_bool Try.underlying4) (fields_cons rfl (by kernel_rfl) (opens_bool Try.underlying4) (fields_cons rfl (by kernel_rfl) (opens_int Try.underlying3)
      (fields_one rfl (by kernel_rfl) (opens_slice Try.underlying35 (by kernel_rfl) (of_decide_eq_true (by kernel_rfl)) opens_instr))))))))) (fun a h => ⟨h.1, h.2.1, h.2.2.2.2.1, h.2.2.2.2.2.1, h.2.2.2.2.2.2⟩)
theorem opens_class : Opens enc Try.prog w base spare held k33 QClass 33 :=
  opens_mono (opens_iso (fun p => ⟨p.1, p.2.1, p.2.2.1, p.2.2.2.1, p.2.2.2.2.1, p.2.2.2.2.2.1, p.2.2.2.2.2.2⟩) (fun _ => rfl) (opens_struct Try.underlying33 (by kernel_rfl)
    (fields_cons rfl (by kernel_rfl) (opens_str Try.underlying9) (fields_cons rfl (by kernel_rfl) (opens_str Try.underlying9) (fields_cons rfl (by kernel_rfl) (opens_bool Try.underlying4) (fields_cons rfl (by kernel_rfl) (opens_bool Try.underlying4) (fields_cons rfl (by kernel_rfl) (opens_slice Try.underlying23 (by kernel_rfl) (of_decide_eq_true (by kernel_rfl)) (opens_str Try.underlying9))
      (fields_cons rfl (by kernel_rfl) (opens_slice Try.underlying30 (by kernel_rfl) (of_decide_eq_true (by kernel_rfl)) opens_field) (fields_one rfl (by kernel_rfl) (opens_slice Try.underlying31 (by kernel_rfl) (of_decide_eq_true (by kernel_rfl)) opens_method)))))))))) (fun a h => ⟨h.1, h.2.1, h.2.2.2.2.1, h.2.2.2.2.2.1, h.2.2.2.2.2.2⟩)
theorem opens_mref : Opens enc Try.prog w base spare held (Kd.pair Kd.string (Kd.pair Kd.string Kd.string)) (fun p => p.1.size ≤ 140737488351232 ∧ p.2.1.size ≤ 140737488351232 ∧ p.2.2.size ≤ 140737488351232) 25 :=
  opens_mono (opens_struct Try.underlying25 (by kernel_rfl) (fields_cons rfl (by kernel_rfl) (opens_str Try.underlying9) (fields_cons rfl (by kernel_rfl) (opens_str Try.underlying9) (fields_one rfl (by kernel_rfl) (opens_str Try.underlying9))))) (fun a h => h)
def QProg (p : List S33 × List ByteArray × ByteArray × ByteArray × ByteArray) : Prop := (p.1.length ≤ 140737488351232 ∧ ∀ x ∈ p.1, QClass x) ∧ (p.2.1.length ≤ 140737488351232 ∧ ∀ x ∈ p.2.1, x.size ≤ 140737488351232) ∧ (p.2.2.1.size ≤ 140737488351232 ∧ p.2.2.2.1.size ≤ 140737488351232 ∧ p.2.2.2.2.size ≤ 140737488351232)
theorem opens_program : Opens enc Try.prog w base spare held (Kd.pair (Kd.slice 33 k33) (Kd.pair (Kd.slice 9 Kd.string) (Kd.pair Kd.string (Kd.pair Kd.string Kd.string))))
    QProg 27 :=
  opens_mono (opens_struct Try.underlying27 (by kernel_rfl) (fields_cons rfl (by kernel_rfl) (opens_slice Try.underlying22 (by kernel_rfl) (of_decide_eq_true (by kernel_rfl)) opens_class)
    (fields_cons rfl (by kernel_rfl) (opens_slice Try.underlying23 (by kernel_rfl) (of_decide_eq_true (by kernel_rfl)) (opens_str Try.underlying9)) (fields_one rfl (by kernel_rfl) opens_mref)))) (fun a h => h)
theorem open_program {r : Reach} {b0 : Nat} {v : Value} {d : DataW H} {ps : List MemPlace} (hw : ∀ n ∈ d.weights Try.prog 27, n ≤ reachBytes) (hval : Value.okWide Try.prog w r b0 27 v) (hd : DataW.Trod enc Try.prog w base spare held 27 v d ps) :
    ∃ (A0 : Option Addr) (c0 : Nat) (l0 : List S33) (A1 : Option Addr) (c1 : Nat) (l1 : List ByteArray) (a2 a3 a4 : ByteArray), v = .agg #[.slice A0 l0.length c0, .slice A1 l1.length c1, .string a2, .string a3, .string a4] ∧
      Kd.C k33 w A0 l0.length l0 ∧ l0.length ≤ c0 ∧ Kd.C Kd.string w A1 l1.length l1 ∧ l1.length ≤ c1 ∧ l0.length ≤ 140737488351232 ∧ (∀ x ∈ l0, QClass x) ∧ l1.length ≤ 140737488351232 ∧ (∀ x ∈ l1, x.size ≤ 140737488351232) ∧ a2.size ≤ 140737488351232 ∧ a3.size ≤ 140737488351232 ∧ a4.size ≤ 140737488351232 := by
  obtain ⟨⟨l0, l1, a2, a3, a4⟩, cs, rfl, hK, hq⟩ := open_agg Try.underlying27 opens_program hw hval hd
  unfold QProg at hq
  obtain ⟨⟨q0, q1⟩, ⟨q2, q3⟩, q4, q5, q6⟩ := hq
  obtain ⟨_, _, rfl, ⟨A0, c0, rfl, m0, h0⟩, _, _, rfl, ⟨A1, c1, rfl, m1, h1⟩, _, _, rfl, rfl, _, _, rfl, rfl, rfl⟩ := hK
  exact ⟨A0, c0, l0, A1, c1, l1, a2, a3, a4, rfl, h0, m0, h1, m1, q0, q1, q2, q3, q4, q5, q6⟩
end
end Op
section
variable {H : Type} {enc : TypeId × Value → H} {P : Program} {w : World} {base : Nat} {spare : Nat → Bool} {held : Bool}
theorem wf_u8 {i : Int} (h : (Lit.int .u8 i).wf = true) : 0 ≤ i ∧ i ≤ 255 := by
  have h1 : IntKind.u8.min = 0 := rfl
  have h2 : IntKind.u8.max = 255 := rfl
  simp [Lit.wf, h1, h2] at h
  exact h
theorem open_u8s3 {r : Reach} {b0 : Nat} {t e : TypeId} {v : Value} {d : DataW H} {ps : List MemPlace} (ht : P.underlying t = some (.array 3 e)) (he : P.underlying e = some (.int .u8)) (hce : P.cellsOf e = 1) (hct : P.cellsOf t = 3)
    (hval : Value.okWide P w r b0 t v) (hd : DataW.Trod enc P w base spare held t v d ps) :
    ∃ a b c : Int, v = .agg #[.int .u8 a, .int .u8 b, .int .u8 c] ∧ (0 ≤ a ∧ a ≤ 255) ∧ (0 ≤ b ∧ b ≤ 255) ∧ (0 ≤ c ∧ c ≤ 255) := by
  have harr : ∃ cs, v = .agg cs ∧ cs.size = P.cellsOf t := by
    simp only [Value.okWide, ht] at hval
    obtain ⟨cs, h1, h2, _⟩ := hval
    exact ⟨cs, h1, h2⟩
  obtain ⟨cs, rfl, hs⟩ := harr
  obtain ⟨fuel, hf⟩ := hd
  rw [hct] at hs
  match cs, hs with
  | ⟨[x0, x1, x2]⟩, _ =>
    obtain ⟨xs, m, _, hx, _, hl, hi⟩ := DataW.trod_array ht hf
    rw [hce] at hi
    match xs, hl with
    | [y0, y1, y2], _ =>
      have g0 := hi 0 (by decide)
      have g1 := hi 1 (by decide)
      have g2 := hi 2 (by decide)
      simp [Value.cells] at g0 g1 g2
      obtain ⟨a, ha, _, za⟩ := DataW.trod_int he g0
      obtain ⟨b, hb, _, zb⟩ := DataW.trod_int he g1
      obtain ⟨c, hc, _, zc⟩ := DataW.trod_int he g2
      simp at ha hb hc
      subst ha hb hc
      exact ⟨a, b, c, rfl, wf_u8 za, wf_u8 zb, wf_u8 zc⟩
end
end Go.Proofs.Ytfplcohjnlbfjaa.Hand
end
