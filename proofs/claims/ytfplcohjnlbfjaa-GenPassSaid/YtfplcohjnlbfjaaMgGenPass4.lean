import Derived.Test.YtfplcohjnlbfjaaMgGenPass3
section
namespace Go.Proofs.Ytfplcohjnlbfjaa.Hand
open Go.ChangeShapes Go.WideShapes Go.ChangeAt Go.Joins Go.Deep Go.RowKit Go.Proofs.YtfplcohjnlbfjaaW.PrintWords Go.Proofs.YtfplcohjnlbfjaaW.PrintLast Go.Proofs.YtfplcohjnlbfjaaW.PrintMore
set_option linter.unusedVariables false
set_option linter.unusedSimpArgs false
set_option maxRecDepth 20000
def passAny (c : S60) (t : S25) : List S60 := if c.f0 = 9 then passList 0 c t else if c.f0 = 10 then passList 1 c t else []
theorem passFrom_f8 (fst : Nat) (c : S60) (t : S25) (n : Nat) : ∀ x ∈ passFrom fst c t n, x.f8 = [] := by
  intro x hx
  unfold passFrom at hx
  obtain ⟨i, _, rfl⟩ := List.mem_map.1 hx
  rfl
theorem passList_f8 (fst : Nat) (c : S60) (t : S25) : ∀ x ∈ passList fst c t, x.f8 = [] := by
  intro x hx
  unfold passList at hx
  split at hx
  · exact passFrom_f8 _ _ _ _ x hx
  · rcases List.mem_append.1 hx with hx | hx
    · exact passFrom_f8 _ _ _ _ x hx
    · obtain rfl := List.mem_singleton.1 hx
      rfl
theorem passList_len (fst : Nat) (c : S60) (t : S25) : (passList fst c t).length ≤ c.f8.length + 1 := by
  have h := passFrom_len fst c t c.f8.length
  unfold passList
  split
  · omega
  · rw [List.length_append, List.length_singleton]
    omega
theorem passAny_f8 (c : S60) (t : S25) : ∀ x ∈ passAny c t, x.f8 = [] := by
  intro x hx
  unfold passAny at hx
  split at hx
  · exact passList_f8 _ _ _ x hx
  · split at hx
    · exact passList_f8 _ _ _ x hx
    · cases hx
theorem passAny_len (c : S60) (t : S25) : (passAny c t).length ≤ c.f8.length + 1 := by
  unfold passAny
  split
  · exact passList_len _ _ _
  · split
    · exact passList_len _ _ _
    · exact Nat.zero_le _
theorem gen_passAny (c : S60) (A : Option Addr) (c0 : Nat) (t : S25) (w : World) (hC : Kd.C (Kd.int .i64) w A c.f8.length c.f8) (hc : c.f8.length ≤ c0) (hlen : c.f8.length ≤ 60) :
    Calls Try.prog 24 #[.agg (List.toArray ((.int .i64 c.f0) :: (.int .i64 c.f1) :: (.int .i64 c.f2.f0) :: (.string c.f2.f1.f0) :: (.string c.f2.f1.f1) :: (.string c.f2.f1.f2) :: (.int .i64 c.f2.f2) :: (.string c.f2.f3.f0) :: [.string c.f2.f3.f1, .string c.f2.f4.f0.f0, .string c.f2.f4.f0.f1, .string c.f2.f4.f0.f2, .int .i64 c.f2.f4.f1, .string c.f2.f4.f2, .int .i64 c.f3.f0, .string c.f3.f1.f0, .string c.f3.f1.f1, .string c.f3.f1.f2, .int .i64 c.f3.f2, .string c.f3.f3.f0, .string c.f3.f3.f1, .string c.f3.f4.f0.f0, .string c.f3.f4.f0.f1, .string c.f3.f4.f0.f2, .int .i64 c.f3.f4.f1, .string c.f3.f4.f2, .string c.f4.f0.f0, .string c.f4.f0.f1, .string c.f4.f0.f2, .int .i64 c.f4.f1, .string c.f4.f2, .string c.f5.f0, .string c.f5.f1, .string c.f6, .string c.f7.f0, .string c.f7.f1, .string c.f7.f2, .slice A c.f8.length c0])), .agg #[.string t.f0, .string t.f1, .string t.f2]] w fun e w' => ∃ v', e = .returned v' ∧ Kd.R k60 60 w' w.heap.size (fun _ => True) v' (passAny c t) ∧ Below w.heap.size w w' := by
  unfold passAny
  by_cases h9 : c.f0 = 9
  · rw [if_pos h9]
    exact gen_pass9 c A c0 t w h9 hC hc (by omega)
  · rw [if_neg h9]
    by_cases h10 : c.f0 = 10
    · rw [if_pos h10]
      exact gen_pass10 c A c0 t w h10 hC hc (by omega)
    · rw [if_neg h10]
      refine (gen_passNone c A c0 t w h9 h10).mono ?_
      rintro e w' ⟨rfl, hb⟩
      exact ⟨_, rfl, Kd.R_nil _ _ _ _ _, hb⟩
theorem ref_passAny (c : S60) (A : Option Addr) (c0 : Nat) (t : S25) (w : World) (hC : Kd.C (Kd.int .i64) w A c.f8.length c.f8) (hc : c.f8.length ≤ c0) (hlen : c.f8.length ≤ 60) :
    Calls Try.prog 25 #[.agg (List.toArray ((.int .i64 c.f0) :: (.int .i64 c.f1) :: (.int .i64 c.f2.f0) :: (.string c.f2.f1.f0) :: (.string c.f2.f1.f1) :: (.string c.f2.f1.f2) :: (.int .i64 c.f2.f2) :: (.string c.f2.f3.f0) :: [.string c.f2.f3.f1, .string c.f2.f4.f0.f0, .string c.f2.f4.f0.f1, .string c.f2.f4.f0.f2, .int .i64 c.f2.f4.f1, .string c.f2.f4.f2, .int .i64 c.f3.f0, .string c.f3.f1.f0, .string c.f3.f1.f1, .string c.f3.f1.f2, .int .i64 c.f3.f2, .string c.f3.f3.f0, .string c.f3.f3.f1, .string c.f3.f4.f0.f0, .string c.f3.f4.f0.f1, .string c.f3.f4.f0.f2, .int .i64 c.f3.f4.f1, .string c.f3.f4.f2, .string c.f4.f0.f0, .string c.f4.f0.f1, .string c.f4.f0.f2, .int .i64 c.f4.f1, .string c.f4.f2, .string c.f5.f0, .string c.f5.f1, .string c.f6, .string c.f7.f0, .string c.f7.f1, .string c.f7.f2, .slice A c.f8.length c0])), .agg #[.string t.f0, .string t.f1, .string t.f2]] w fun e w' => ∃ v', e = .returned v' ∧ Kd.R k60 60 w' w.heap.size (fun _ => True) v' (passAny c t) ∧ Below w.heap.size w w' := by
  unfold passAny
  by_cases h9 : c.f0 = 9
  · rw [if_pos h9]
    exact ref_pass9 c A c0 t w h9 hC hc (by omega)
  · rw [if_neg h9]
    by_cases h10 : c.f0 = 10
    · rw [if_pos h10]
      exact ref_pass10 c A c0 t w h10 hC hc (by omega)
    · rw [if_neg h10]
      refine (ref_passNone c A c0 t w h9 h10).mono ?_
      rintro e w' ⟨rfl, hb⟩
      exact ⟨_, rfl, Kd.R_nil _ _ _ _ _, hb⟩
set_option maxHeartbeats 64000000 in
theorem GenPass_go (c : S60) (A : Option Addr) (c0 : Nat) (t : S25) (w : World) (hC : Kd.C (Kd.int .i64) w A c.f8.length c.f8) (hc : c.f8.length ≤ c0) :
    Calls Try.prog 5 #[.agg (List.toArray ((.int .i64 c.f0) :: (.int .i64 c.f1) :: (.int .i64 c.f2.f0) :: (.string c.f2.f1.f0) :: (.string c.f2.f1.f1) :: (.string c.f2.f1.f2) :: (.int .i64 c.f2.f2) :: (.string c.f2.f3.f0) :: [.string c.f2.f3.f1, .string c.f2.f4.f0.f0, .string c.f2.f4.f0.f1, .string c.f2.f4.f0.f2, .int .i64 c.f2.f4.f1, .string c.f2.f4.f2, .int .i64 c.f3.f0, .string c.f3.f1.f0, .string c.f3.f1.f1, .string c.f3.f1.f2, .int .i64 c.f3.f2, .string c.f3.f3.f0, .string c.f3.f3.f1, .string c.f3.f4.f0.f0, .string c.f3.f4.f0.f1, .string c.f3.f4.f0.f2, .int .i64 c.f3.f4.f1, .string c.f3.f4.f2, .string c.f4.f0.f0, .string c.f4.f0.f1, .string c.f4.f0.f2, .int .i64 c.f4.f1, .string c.f4.f2, .string c.f5.f0, .string c.f5.f1, .string c.f6, .string c.f7.f0, .string c.f7.f1, .string c.f7.f2, .slice A c.f8.length c0])), .agg #[.string t.f0, .string t.f1, .string t.f2]] w fun e w' => e = .returned (.bool true) ∧ Below w.heap.size w w' := by
  have hab := below_alloc (below_alloc (Below.refl w.heap.size w) (Obj.cells (List.toArray ((.int .i64 c.f0) :: (.int .i64 c.f1) :: (.int .i64 c.f2.f0) :: (.string c.f2.f1.f0) :: (.string c.f2.f1.f1) :: (.string c.f2.f1.f2) :: (.int .i64 c.f2.f2) :: (.string c.f2.f3.f0) :: [.string c.f2.f3.f1, .string c.f2.f4.f0.f0, .string c.f2.f4.f0.f1, .string c.f2.f4.f0.f2, .int .i64 c.f2.f4.f1, .string c.f2.f4.f2, .int .i64 c.f3.f0, .string c.f3.f1.f0, .string c.f3.f1.f1, .string c.f3.f1.f2, .int .i64 c.f3.f2, .string c.f3.f3.f0, .string c.f3.f3.f1, .string c.f3.f4.f0.f0, .string c.f3.f4.f0.f1, .string c.f3.f4.f0.f2, .int .i64 c.f3.f4.f1, .string c.f3.f4.f2, .string c.f4.f0.f0, .string c.f4.f0.f1, .string c.f4.f0.f2, .int .i64 c.f4.f1, .string c.f4.f2, .string c.f5.f0, .string c.f5.f1, .string c.f6, .string c.f7.f0, .string c.f7.f1, .string c.f7.f2, .slice A c.f8.length c0])) 60)) (Obj.cells #[.string t.f0, .string t.f1, .string t.f2] 25)
  have h0 := blk_alloc (World.alloc_heap_new w (Obj.cells (List.toArray ((.int .i64 c.f0) :: (.int .i64 c.f1) :: (.int .i64 c.f2.f0) :: (.string c.f2.f1.f0) :: (.string c.f2.f1.f1) :: (.string c.f2.f1.f2) :: (.int .i64 c.f2.f2) :: (.string c.f2.f3.f0) :: [.string c.f2.f3.f1, .string c.f2.f4.f0.f0, .string c.f2.f4.f0.f1, .string c.f2.f4.f0.f2, .int .i64 c.f2.f4.f1, .string c.f2.f4.f2, .int .i64 c.f3.f0, .string c.f3.f1.f0, .string c.f3.f1.f1, .string c.f3.f1.f2, .int .i64 c.f3.f2, .string c.f3.f3.f0, .string c.f3.f3.f1, .string c.f3.f4.f0.f0, .string c.f3.f4.f0.f1, .string c.f3.f4.f0.f2, .int .i64 c.f3.f4.f1, .string c.f3.f4.f2, .string c.f4.f0.f0, .string c.f4.f0.f1, .string c.f4.f0.f2, .int .i64 c.f4.f1, .string c.f4.f2, .string c.f5.f0, .string c.f5.f1, .string c.f6, .string c.f7.f0, .string c.f7.f1, .string c.f7.f2, .slice A c.f8.length c0])) 60)) (Obj.cells #[.string t.f0, .string t.f1, .string t.f2] 25)
  have h1 := World.alloc_heap_new (w.alloc (Obj.cells (List.toArray ((.int .i64 c.f0) :: (.int .i64 c.f1) :: (.int .i64 c.f2.f0) :: (.string c.f2.f1.f0) :: (.string c.f2.f1.f1) :: (.string c.f2.f1.f2) :: (.int .i64 c.f2.f2) :: (.string c.f2.f3.f0) :: [.string c.f2.f3.f1, .string c.f2.f4.f0.f0, .string c.f2.f4.f0.f1, .string c.f2.f4.f0.f2, .int .i64 c.f2.f4.f1, .string c.f2.f4.f2, .int .i64 c.f3.f0, .string c.f3.f1.f0, .string c.f3.f1.f1, .string c.f3.f1.f2, .int .i64 c.f3.f2, .string c.f3.f3.f0, .string c.f3.f3.f1, .string c.f3.f4.f0.f0, .string c.f3.f4.f0.f1, .string c.f3.f4.f0.f2, .int .i64 c.f3.f4.f1, .string c.f3.f4.f2, .string c.f4.f0.f0, .string c.f4.f0.f1, .string c.f4.f0.f2, .int .i64 c.f4.f1, .string c.f4.f2, .string c.f5.f0, .string c.f5.f1, .string c.f6, .string c.f7.f0, .string c.f7.f1, .string c.f7.f2, .slice A c.f8.length c0])) 60)) (Obj.cells #[.string t.f0, .string t.f1, .string t.f2] 25)
  rw [World.size_alloc] at h1
  have hsz : ((w.alloc (Obj.cells (List.toArray ((.int .i64 c.f0) :: (.int .i64 c.f1) :: (.int .i64 c.f2.f0) :: (.string c.f2.f1.f0) :: (.string c.f2.f1.f1) :: (.string c.f2.f1.f2) :: (.int .i64 c.f2.f2) :: (.string c.f2.f3.f0) :: [.string c.f2.f3.f1, .string c.f2.f4.f0.f0, .string c.f2.f4.f0.f1, .string c.f2.f4.f0.f2, .int .i64 c.f2.f4.f1, .string c.f2.f4.f2, .int .i64 c.f3.f0, .string c.f3.f1.f0, .string c.f3.f1.f1, .string c.f3.f1.f2, .int .i64 c.f3.f2, .string c.f3.f3.f0, .string c.f3.f3.f1, .string c.f3.f4.f0.f0, .string c.f3.f4.f0.f1, .string c.f3.f4.f0.f2, .int .i64 c.f3.f4.f1, .string c.f3.f4.f2, .string c.f4.f0.f0, .string c.f4.f0.f1, .string c.f4.f0.f2, .int .i64 c.f4.f1, .string c.f4.f2, .string c.f5.f0, .string c.f5.f1, .string c.f6, .string c.f7.f0, .string c.f7.f1, .string c.f7.f2, .slice A c.f8.length c0])) 60)).alloc (Obj.cells #[.string t.f0, .string t.f1, .string t.f2] 25)).heap.size = w.heap.size + 2 := by rw [World.size_alloc, World.size_alloc]
  have HCA := Aside0.mk hC
  have HCC := Aside0.mk hc
  obtain ⟨wd, hwd⟩ : ∃ wd, wd = ((w.alloc (Obj.cells (List.toArray ((.int .i64 c.f0) :: (.int .i64 c.f1) :: (.int .i64 c.f2.f0) :: (.string c.f2.f1.f0) :: (.string c.f2.f1.f1) :: (.string c.f2.f1.f2) :: (.int .i64 c.f2.f2) :: (.string c.f2.f3.f0) :: [.string c.f2.f3.f1, .string c.f2.f4.f0.f0, .string c.f2.f4.f0.f1, .string c.f2.f4.f0.f2, .int .i64 c.f2.f4.f1, .string c.f2.f4.f2, .int .i64 c.f3.f0, .string c.f3.f1.f0, .string c.f3.f1.f1, .string c.f3.f1.f2, .int .i64 c.f3.f2, .string c.f3.f3.f0, .string c.f3.f3.f1, .string c.f3.f4.f0.f0, .string c.f3.f4.f0.f1, .string c.f3.f4.f0.f2, .int .i64 c.f3.f4.f1, .string c.f3.f4.f2, .string c.f4.f0.f0, .string c.f4.f0.f1, .string c.f4.f0.f2, .int .i64 c.f4.f1, .string c.f4.f2, .string c.f5.f0, .string c.f5.f1, .string c.f6, .string c.f7.f0, .string c.f7.f1, .string c.f7.f2, .slice A c.f8.length c0])) 60)).alloc (Obj.cells #[.string t.f0, .string t.f1, .string t.f2] 25)) := ⟨_, rfl⟩
  have zk : wd.drew.heap[w.heap.size]? = some (Obj.cells (List.toArray ((.int .i64 c.f0) :: (.int .i64 c.f1) :: (.int .i64 c.f2.f0) :: (.string c.f2.f1.f0) :: (.string c.f2.f1.f1) :: (.string c.f2.f1.f2) :: (.int .i64 c.f2.f2) :: (.string c.f2.f3.f0) :: [.string c.f2.f3.f1, .string c.f2.f4.f0.f0, .string c.f2.f4.f0.f1, .string c.f2.f4.f0.f2, .int .i64 c.f2.f4.f1, .string c.f2.f4.f2, .int .i64 c.f3.f0, .string c.f3.f1.f0, .string c.f3.f1.f1, .string c.f3.f1.f2, .int .i64 c.f3.f2, .string c.f3.f3.f0, .string c.f3.f3.f1, .string c.f3.f4.f0.f0, .string c.f3.f4.f0.f1, .string c.f3.f4.f0.f2, .int .i64 c.f3.f4.f1, .string c.f3.f4.f2, .string c.f4.f0.f0, .string c.f4.f0.f1, .string c.f4.f0.f2, .int .i64 c.f4.f1, .string c.f4.f2, .string c.f5.f0, .string c.f5.f1, .string c.f6, .string c.f7.f0, .string c.f7.f1, .string c.f7.f2, .slice A c.f8.length c0])) 60 (0, 0)) := by rw [hwd]; exact h0
  have zt : wd.drew.heap[w.heap.size + 1]? = some (Obj.cells #[.string t.f0, .string t.f1, .string t.f2] 25 (0, 0)) := by rw [hwd]; exact h1
  have z0 : wd.drew.cell? ⟨w.heap.size, 37, none⟩ = some (.slice A c.f8.length c0) := blk_cell zk 37
  have z1 : wd.drew.cell? ⟨w.heap.size + 1, 0, none⟩ = some (.string t.f0) := blk_cell zt 0
  have z2 : wd.drew.cell? ⟨w.heap.size + 1, 1, none⟩ = some (.string t.f1) := blk_cell zt 1
  have z3 : wd.drew.cell? ⟨w.heap.size + 1, 2, none⟩ = some (.string t.f2) := blk_cell zt 2
  have HBX : Aside0 (Below w.heap.size w wd.drew) := ⟨by rw [hwd]; exact below_drew1 hab⟩
  have HSX : Aside0 (w.heap.size ≤ wd.drew.heap.size) := ⟨by rw [hwd]; show w.heap.size ≤ ((w.alloc (Obj.cells (List.toArray ((.int .i64 c.f0) :: (.int .i64 c.f1) :: (.int .i64 c.f2.f0) :: (.string c.f2.f1.f0) :: (.string c.f2.f1.f1) :: (.string c.f2.f1.f2) :: (.int .i64 c.f2.f2) :: (.string c.f2.f3.f0) :: [.string c.f2.f3.f1, .string c.f2.f4.f0.f0, .string c.f2.f4.f0.f1, .string c.f2.f4.f0.f2, .int .i64 c.f2.f4.f1, .string c.f2.f4.f2, .int .i64 c.f3.f0, .string c.f3.f1.f0, .string c.f3.f1.f1, .string c.f3.f1.f2, .int .i64 c.f3.f2, .string c.f3.f3.f0, .string c.f3.f3.f1, .string c.f3.f4.f0.f0, .string c.f3.f4.f0.f1, .string c.f3.f4.f0.f2, .int .i64 c.f3.f4.f1, .string c.f3.f4.f2, .string c.f4.f0.f0, .string c.f4.f0.f1, .string c.f4.f0.f2, .int .i64 c.f4.f1, .string c.f4.f2, .string c.f5.f0, .string c.f5.f1, .string c.f6, .string c.f7.f0, .string c.f7.f1, .string c.f7.f2, .slice A c.f8.length c0])) 60)).alloc (Obj.cells #[.string t.f0, .string t.f1, .string t.f2] 25)).heap.size; omega⟩
  have HWD := Aside0.mk hwd
  clear hab h0 h1 hsz hC zt hwd
  go_enter Try.func5, Try.ntmps5
  by_cases hlt : 60 < c.f8.length
  · have hd : decide ((c.f8.length : Int) > 60) = true := decide_eq_true (by omega)
    have HLE : Aside0 (60 < c.f8.length) := ⟨by omega⟩
    go_wp2_with fail
    rw [← HWD.out]
    clear HWD
    refine start_ (n := 17) (S := fun w' => w'.heap[w.heap.size]? = some (Obj.cells (List.toArray ((.int .i64 c.f0) :: (.int .i64 c.f1) :: (.int .i64 c.f2.f0) :: (.string c.f2.f1.f0) :: (.string c.f2.f1.f1) :: (.string c.f2.f1.f2) :: (.int .i64 c.f2.f2) :: (.string c.f2.f3.f0) :: [.string c.f2.f3.f1, .string c.f2.f4.f0.f0, .string c.f2.f4.f0.f1, .string c.f2.f4.f0.f2, .int .i64 c.f2.f4.f1, .string c.f2.f4.f2, .int .i64 c.f3.f0, .string c.f3.f1.f0, .string c.f3.f1.f1, .string c.f3.f1.f2, .int .i64 c.f3.f2, .string c.f3.f3.f0, .string c.f3.f3.f1, .string c.f3.f4.f0.f0, .string c.f3.f4.f0.f1, .string c.f3.f4.f0.f2, .int .i64 c.f3.f4.f1, .string c.f3.f4.f2, .string c.f4.f0.f0, .string c.f4.f0.f1, .string c.f4.f0.f2, .int .i64 c.f4.f1, .string c.f4.f2, .string c.f5.f0, .string c.f5.f1, .string c.f6, .string c.f7.f0, .string c.f7.f1, .string c.f7.f2, .slice A c.f8.length c0])) 60 (0, 0)) ∧ w'.cell? ⟨w.heap.size, 37, none⟩ = some (.slice A c.f8.length c0) ∧ w'.cell? ⟨w.heap.size + 1, 0, none⟩ = some (.string t.f0) ∧ w'.cell? ⟨w.heap.size + 1, 1, none⟩ = some (.string t.f1) ∧ w'.cell? ⟨w.heap.size + 1, 2, none⟩ = some (.string t.f2)) (ds := []) #[false, false, false, false, false, false, false, false, false, false, false, false, false, false, false, false, false] (by kernel_rfl) rfl rfl ⟨zk, z0, z1, z2, z3⟩ (fun hHeld => ?_)
    generalize wd.drew = X at HBX HSX zk z0 z1 z2 z3 hHeld ⊢
    refine one_ (i := 0) (N := some 5) #[true, false, false, false, false, false, false, false, false, false, false, false, false, false, false, false, false] rfl rfl (by kernel_rfl) (by decide) (fun K hK => ?_)
    refine goes_ Try.func12 (by kernel_rfl) rfl #[] (by rfl) rfl rfl (by (try simp only [List.map_toArray, List.map_cons, List.map_nil]); first | done | rfl) ?_
    refine (gen_live X).mono ?_
    rintro e w1 ⟨rfl, hb⟩
    refine ⟨_, rfl, ?_⟩
    have yk := blk_below zk hb
    have y0 := (hb.cell (World.block_lt_of_cell? _ _ z0)).trans z0
    have y1 := (hb.cell (World.block_lt_of_cell? _ _ z1)).trans z1
    have y2 := (hb.cell (World.block_lt_of_cell? _ _ z2)).trans z2
    have y3 := (hb.cell (World.block_lt_of_cell? _ _ z3)).trans z3
    have HB1 := Aside0.mk (HBX.out.trans (hb.mono HSX.out))
    have HS1 := Aside0.mk (Nat.le_trans HSX.out hb.size)
    clear hb
    refine hK.out _ _ ⟨yk, y0, y1, y2, y3⟩ (fun hHeld => ?_)
    clear hK K
    refine norm_ (a' := ?_) ?_ ?_
    rotate_left
    · show Act.put _ (some 5) _ = _
      simp only [Act.put, List.setIfInBounds_toArray, List.set_cons_zero, List.set_cons_succ, i64_w, i32_w]
      rfl
    refine pure_ (i := 1) (N := some 6) (v := ?_) (a' := ?_) #[true, true, false, false, false, false, false, false, false, false, false, false, false, false, false, false, false] rfl rfl (by kernel_rfl) (fun _ _ _ h => h) (Or.inl ⟨by rfl, ?_⟩) ?_ ?_
    rotate_left
    · intro w'
      go_simp
      with_reducible rfl
    rotate_left
    · simp only [Act.put, List.setIfInBounds_toArray, List.set_cons_zero, List.set_cons_succ, i64_w, i32_w]
      rfl
    refine pure_ (i := 2) (N := some 7) (v := ?_) (a' := ?_) #[true, true, true, false, false, false, false, false, false, false, false, false, false, false, false, false, false] rfl rfl (by kernel_rfl) (fun _ _ _ h => h) (Or.inl ⟨by rfl, ?_⟩) ?_ ?_
    rotate_left
    · intro w'
      go_simp
      with_reducible rfl
    rotate_left
    · simp only [Act.put, List.setIfInBounds_toArray, List.set_cons_zero, List.set_cons_succ, i64_w, i32_w]
      rfl
    refine take_ (i := 3) (N := some 8) (v := ?_) (a' := ?_) #[true, true, true, true, false, false, false, false, false, false, false, false, false, false, false, false, false] rfl rfl (by kernel_rfl) (fun _ _ _ h => h) (Or.inl ⟨by rfl, ?_⟩) hHeld ?_ ?_
    rotate_left
    · rintro w' ⟨s0, s1, s2, s3, s4⟩
      go_simp
      with_reducible rfl
    rotate_left
    · simp only [Act.put, List.setIfInBounds_toArray, List.set_cons_zero, List.set_cons_succ, i64_w, i32_w]
      rfl
    refine pure_ (i := 4) (N := some 9) (v := ?_) (a' := ?_) #[true, true, true, true, true, false, false, false, false, false, false, false, false, false, false, false, false] rfl rfl (by kernel_rfl) (fun _ _ _ h => h) (Or.inl ⟨by rfl, ?_⟩) ?_ ?_
    rotate_left
    · intro w'
      go_simp
      with_reducible rfl
    rotate_left
    · simp only [Act.put, List.setIfInBounds_toArray, List.set_cons_zero, List.set_cons_succ, i64_w, i32_w]
      rfl
    refine pure_ (i := 5) (N := some 10) (v := ?_) (a' := ?_) #[true, true, true, true, true, true, false, false, false, false, false, false, false, false, false, false, false] rfl rfl (by kernel_rfl) (fun _ _ _ h => h) (Or.inl ⟨by rfl, ?_⟩) ?_ ?_
    rotate_left
    · intro w'
      go_simp
      with_reducible rfl
    rotate_left
    · simp only [Act.put, List.setIfInBounds_toArray, List.set_cons_zero, List.set_cons_succ, i64_w, i32_w]
      rfl
    refine pure_ (i := 6) (N := some 11) (v := ?_) (a' := ?_) #[true, true, true, true, true, true, true, false, false, false, false, false, false, false, false, false, false] rfl rfl (by kernel_rfl) (fun _ _ _ h => h) (Or.inl ⟨by rfl, ?_⟩) ?_ ?_
    rotate_left
    · intro w'
      go_simp
      with_reducible rfl
    rotate_left
    · simp only [Act.put, List.setIfInBounds_toArray, List.set_cons_zero, List.set_cons_succ, i64_w, i32_w]
      rfl
    refine pure_ (i := 7) (N := some 12) (v := undef) (a' := ?_) #[true, true, true, true, true, true, true, true, false, false, false, false, false, false, false, false, false] rfl rfl (by kernel_rfl) (fun _ _ _ h => h) (Or.inr ⟨by rfl, rfl⟩) ?_ ?_
    rotate_left
    · simp only [Act.put, List.setIfInBounds_toArray, List.set_cons_zero, List.set_cons_succ, i64_w, i32_w]
      rfl
    refine pure_ (i := 8) (N := some 13) (v := undef) (a' := ?_) #[true, true, true, true, true, true, true, true, true, false, false, false, false, false, false, false, false] rfl rfl (by kernel_rfl) (fun _ _ _ h => h) (Or.inr ⟨by rfl, rfl⟩) ?_ ?_
    rotate_left
    · simp only [Act.put, List.setIfInBounds_toArray, List.set_cons_zero, List.set_cons_succ, i64_w, i32_w]
      rfl
    refine pure_ (i := 9) (N := some 14) (v := undef) (a' := ?_) #[true, true, true, true, true, true, true, true, true, true, false, false, false, false, false, false, false] rfl rfl (by kernel_rfl) (fun _ _ _ h => h) (Or.inr ⟨by rfl, rfl⟩) ?_ ?_
    rotate_left
    · simp only [Act.put, List.setIfInBounds_toArray, List.set_cons_zero, List.set_cons_succ, i64_w, i32_w]
      rfl
    refine pure_ (i := 10) (N := some 15) (v := undef) (a' := ?_) #[true, true, true, true, true, true, true, true, true, true, true, false, false, false, false, false, false] rfl rfl (by kernel_rfl) (fun _ _ _ h => h) (Or.inr ⟨by rfl, rfl⟩) ?_ ?_
    rotate_left
    · simp only [Act.put, List.setIfInBounds_toArray, List.set_cons_zero, List.set_cons_succ, i64_w, i32_w]
      rfl
    refine pure_ (i := 11) (N := some 16) (v := undef) (a' := ?_) #[true, true, true, true, true, true, true, true, true, true, true, true, false, false, false, false, false] rfl rfl (by kernel_rfl) (fun _ _ _ h => h) (Or.inr ⟨by rfl, rfl⟩) ?_ ?_
    rotate_left
    · simp only [Act.put, List.setIfInBounds_toArray, List.set_cons_zero, List.set_cons_succ, i64_w, i32_w]
      rfl
    refine pure_ (i := 12) (N := some 17) (v := undef) (a' := ?_) #[true, true, true, true, true, true, true, true, true, true, true, true, true, false, false, false, false] rfl rfl (by kernel_rfl) (fun _ _ _ h => h) (Or.inr ⟨by rfl, rfl⟩) ?_ ?_
    rotate_left
    · simp only [Act.put, List.setIfInBounds_toArray, List.set_cons_zero, List.set_cons_succ, i64_w, i32_w]
      rfl
    refine pure_ (i := 13) (N := some 18) (v := undef) (a' := ?_) #[true, true, true, true, true, true, true, true, true, true, true, true, true, true, false, false, false] rfl rfl (by kernel_rfl) (fun _ _ _ h => h) (Or.inr ⟨by rfl, rfl⟩) ?_ ?_
    rotate_left
    · simp only [Act.put, List.setIfInBounds_toArray, List.set_cons_zero, List.set_cons_succ, i64_w, i32_w]
      rfl
    refine pure_ (i := 14) (N := some 19) (v := ?_) (a' := ?_) #[true, true, true, true, true, true, true, true, true, true, true, true, true, true, true, false, false] rfl rfl (by kernel_rfl) (fun _ _ _ h => h) (Or.inl ⟨by rfl, ?_⟩) ?_ ?_
    rotate_left
    · intro w'
      go_simp
      with_reducible rfl
    rotate_left
    · simp only [Act.put, List.setIfInBounds_toArray, List.set_cons_zero, List.set_cons_succ, i64_w, i32_w]
      rfl
    refine pure_ (i := 15) (N := some 20) (v := ?_) (a' := ?_) #[true, true, true, true, true, true, true, true, true, true, true, true, true, true, true, true, false] rfl rfl (by kernel_rfl) (fun _ _ _ h => h) (Or.inl ⟨by rfl, ?_⟩) ?_ ?_
    rotate_left
    · intro w'
      go_simp
      with_reducible rfl
    rotate_left
    · simp only [Act.put, List.setIfInBounds_toArray, List.set_cons_zero, List.set_cons_succ, i64_w, i32_w]
      rfl
    refine pure_ (i := 16) (N := some 4) (v := ?_) (a' := ?_) #[true, true, true, true, true, true, true, true, true, true, true, true, true, true, true, true, true] rfl rfl (by kernel_rfl) (fun _ _ _ h => h) (Or.inl ⟨by rfl, ?_⟩) ?_ ?_
    rotate_left
    · intro w'
      go_simp
      with_reducible rfl
    rotate_left
    · simp only [Act.put, List.setIfInBounds_toArray, List.set_cons_zero, List.set_cons_succ, i64_w, i32_w]
      rfl
    refine done_ (by kernel_rfl) ?_
    go_wp2_with fail
    exact bodyPost_ret (results_tmp rfl _ _ _) rfl ⟨rfl, HB1.out⟩
  · have hd : decide ((c.f8.length : Int) > 60) = false := decide_eq_false (by omega)
    have HLE : Aside0 (c.f8.length ≤ 60) := ⟨by omega⟩
    go_wp2_with fail
    rw [← HWD.out]
    clear HWD
    refine start_ (n := 17) (S := fun w' => w'.heap[w.heap.size]? = some (Obj.cells (List.toArray ((.int .i64 c.f0) :: (.int .i64 c.f1) :: (.int .i64 c.f2.f0) :: (.string c.f2.f1.f0) :: (.string c.f2.f1.f1) :: (.string c.f2.f1.f2) :: (.int .i64 c.f2.f2) :: (.string c.f2.f3.f0) :: [.string c.f2.f3.f1, .string c.f2.f4.f0.f0, .string c.f2.f4.f0.f1, .string c.f2.f4.f0.f2, .int .i64 c.f2.f4.f1, .string c.f2.f4.f2, .int .i64 c.f3.f0, .string c.f3.f1.f0, .string c.f3.f1.f1, .string c.f3.f1.f2, .int .i64 c.f3.f2, .string c.f3.f3.f0, .string c.f3.f3.f1, .string c.f3.f4.f0.f0, .string c.f3.f4.f0.f1, .string c.f3.f4.f0.f2, .int .i64 c.f3.f4.f1, .string c.f3.f4.f2, .string c.f4.f0.f0, .string c.f4.f0.f1, .string c.f4.f0.f2, .int .i64 c.f4.f1, .string c.f4.f2, .string c.f5.f0, .string c.f5.f1, .string c.f6, .string c.f7.f0, .string c.f7.f1, .string c.f7.f2, .slice A c.f8.length c0])) 60 (0, 0)) ∧ w'.cell? ⟨w.heap.size, 37, none⟩ = some (.slice A c.f8.length c0) ∧ w'.cell? ⟨w.heap.size + 1, 0, none⟩ = some (.string t.f0) ∧ w'.cell? ⟨w.heap.size + 1, 1, none⟩ = some (.string t.f1) ∧ w'.cell? ⟨w.heap.size + 1, 2, none⟩ = some (.string t.f2)) (ds := []) #[false, false, false, false, false, false, false, false, false, false, false, false, false, false, false, false, false] (by kernel_rfl) rfl rfl ⟨zk, z0, z1, z2, z3⟩ (fun hHeld => ?_)
    generalize wd.drew = X at HBX HSX zk z0 z1 z2 z3 hHeld ⊢
    refine one_ (i := 0) (N := some 5) #[true, false, false, false, false, false, false, false, false, false, false, false, false, false, false, false, false] rfl rfl (by kernel_rfl) (by decide) (fun K hK => ?_)
    refine goes_ Try.func12 (by kernel_rfl) rfl #[] (by rfl) rfl rfl (by (try simp only [List.map_toArray, List.map_cons, List.map_nil]); first | done | rfl) ?_
    refine (gen_live X).mono ?_
    rintro e w1 ⟨rfl, hb⟩
    refine ⟨_, rfl, ?_⟩
    have yk := blk_below zk hb
    have y0 := (hb.cell (World.block_lt_of_cell? _ _ z0)).trans z0
    have y1 := (hb.cell (World.block_lt_of_cell? _ _ z1)).trans z1
    have y2 := (hb.cell (World.block_lt_of_cell? _ _ z2)).trans z2
    have y3 := (hb.cell (World.block_lt_of_cell? _ _ z3)).trans z3
    have HB1 := Aside0.mk (HBX.out.trans (hb.mono HSX.out))
    have HS1 := Aside0.mk (Nat.le_trans HSX.out hb.size)
    clear hb
    refine hK.out _ _ ⟨yk, y0, y1, y2, y3⟩ (fun hHeld => ?_)
    clear hK K
    refine norm_ (a' := ?_) ?_ ?_
    rotate_left
    · show Act.put _ (some 5) _ = _
      simp only [Act.put, List.setIfInBounds_toArray, List.set_cons_zero, List.set_cons_succ, i64_w, i32_w]
      rfl
    refine pure_ (i := 1) (N := some 6) (v := ?_) (a' := ?_) #[true, true, false, false, false, false, false, false, false, false, false, false, false, false, false, false, false] rfl rfl (by kernel_rfl) (fun _ _ _ h => h) (Or.inl ⟨by rfl, ?_⟩) ?_ ?_
    rotate_left
    · intro w'
      go_simp
      with_reducible rfl
    rotate_left
    · simp only [Act.put, List.setIfInBounds_toArray, List.set_cons_zero, List.set_cons_succ, i64_w, i32_w]
      rfl
    refine pure_ (i := 2) (N := some 7) (v := ?_) (a' := ?_) #[true, true, true, false, false, false, false, false, false, false, false, false, false, false, false, false, false] rfl rfl (by kernel_rfl) (fun _ _ _ h => h) (Or.inl ⟨by rfl, ?_⟩) ?_ ?_
    rotate_left
    · intro w'
      go_simp
      with_reducible rfl
    rotate_left
    · simp only [Act.put, List.setIfInBounds_toArray, List.set_cons_zero, List.set_cons_succ, i64_w, i32_w]
      rfl
    refine take_ (i := 3) (N := some 8) (v := ?_) (a' := ?_) #[true, true, true, true, false, false, false, false, false, false, false, false, false, false, false, false, false] rfl rfl (by kernel_rfl) (fun _ _ _ h => h) (Or.inl ⟨by rfl, ?_⟩) hHeld ?_ ?_
    rotate_left
    · rintro w' ⟨s0, s1, s2, s3, s4⟩
      go_simp
      with_reducible rfl
    rotate_left
    · simp only [Act.put, List.setIfInBounds_toArray, List.set_cons_zero, List.set_cons_succ, i64_w, i32_w]
      rfl
    refine pure_ (i := 4) (N := some 9) (v := ?_) (a' := ?_) #[true, true, true, true, true, false, false, false, false, false, false, false, false, false, false, false, false] rfl rfl (by kernel_rfl) (fun _ _ _ h => h) (Or.inl ⟨by rfl, ?_⟩) ?_ ?_
    rotate_left
    · intro w'
      go_simp
      with_reducible rfl
    rotate_left
    · simp only [Act.put, List.setIfInBounds_toArray, List.set_cons_zero, List.set_cons_succ, i64_w, i32_w]
      rfl
    refine pure_ (i := 5) (N := some 10) (v := ?_) (a' := ?_) #[true, true, true, true, true, true, false, false, false, false, false, false, false, false, false, false, false] rfl rfl (by kernel_rfl) (fun _ _ _ h => h) (Or.inl ⟨by rfl, ?_⟩) ?_ ?_
    rotate_left
    · intro w'
      go_simp
      with_reducible rfl
    rotate_left
    · simp only [Act.put, List.setIfInBounds_toArray, List.set_cons_zero, List.set_cons_succ, i64_w, i32_w]
      rfl
    refine pure_ (i := 6) (N := some 11) (v := ?_) (a' := ?_) #[true, true, true, true, true, true, true, false, false, false, false, false, false, false, false, false, false] rfl rfl (by kernel_rfl) (fun _ _ _ h => h) (Or.inl ⟨by rfl, ?_⟩) ?_ ?_
    rotate_left
    · intro w'
      go_simp
      with_reducible rfl
    rotate_left
    · simp only [Act.put, List.setIfInBounds_toArray, List.set_cons_zero, List.set_cons_succ, i64_w, i32_w]
      rfl
    refine take_ (i := 7) (N := some 12) (a' := ?_) #[true, true, true, true, true, true, true, true, false, false, false, false, false, false, false, false, false] rfl rfl (by kernel_rfl) (fun _ _ _ h => h) (yieldsIf_load_mid (by rfl) 60 (.tmp 2) rfl (w.heap.size) 0 rfl ((.int .i64 c.f0) :: (.int .i64 c.f1) :: (.int .i64 c.f2.f0) :: (.string c.f2.f1.f0) :: (.string c.f2.f1.f1) :: (.string c.f2.f1.f2) :: (.int .i64 c.f2.f2) :: (.string c.f2.f3.f0) :: [.string c.f2.f3.f1, .string c.f2.f4.f0.f0, .string c.f2.f4.f0.f1, .string c.f2.f4.f0.f2, .int .i64 c.f2.f4.f1, .string c.f2.f4.f2, .int .i64 c.f3.f0, .string c.f3.f1.f0, .string c.f3.f1.f1, .string c.f3.f1.f2, .int .i64 c.f3.f2, .string c.f3.f3.f0, .string c.f3.f3.f1, .string c.f3.f4.f0.f0, .string c.f3.f4.f0.f1, .string c.f3.f4.f0.f2, .int .i64 c.f3.f4.f1, .string c.f3.f4.f2, .string c.f4.f0.f0, .string c.f4.f0.f1, .string c.f4.f0.f2, .int .i64 c.f4.f1, .string c.f4.f2, .string c.f5.f0, .string c.f5.f1, .string c.f6, .string c.f7.f0, .string c.f7.f1, .string c.f7.f2, .slice A c.f8.length c0]) _ (fun w' hw' => range_blk hw'.1 0 38 _ (by kernel_rfl)) Try.underlying60 rfl (by kernel_rfl)) hHeld ?_ ?_
    rotate_left
    · simp only [Act.put, List.setIfInBounds_toArray, List.set_cons_zero, List.set_cons_succ, i64_w, i32_w]
      rfl
    refine take_ (i := 8) (N := some 13) (v := ?_) (a' := ?_) #[true, true, true, true, true, true, true, true, true, false, false, false, false, false, false, false, false] rfl rfl (by kernel_rfl) (fun _ _ _ h => h) (Or.inl ⟨by rfl, ?_⟩) hHeld ?_ ?_
    rotate_left
    · rintro w' ⟨s0, s1, s2, s3, s4⟩
      go_simp
      with_reducible rfl
    rotate_left
    · simp only [Act.put, List.setIfInBounds_toArray, List.set_cons_zero, List.set_cons_succ, i64_w, i32_w]
      rfl
    refine take_ (i := 10) (N := some 15) (a' := ?_) #[true, true, true, true, true, true, true, true, true, false, true, false, false, false, false, false, false] rfl rfl (by kernel_rfl) (fun _ _ _ h => h) (yieldsIf_load_mid (by rfl) 60 (.tmp 2) rfl (w.heap.size) 0 rfl ((.int .i64 c.f0) :: (.int .i64 c.f1) :: (.int .i64 c.f2.f0) :: (.string c.f2.f1.f0) :: (.string c.f2.f1.f1) :: (.string c.f2.f1.f2) :: (.int .i64 c.f2.f2) :: (.string c.f2.f3.f0) :: [.string c.f2.f3.f1, .string c.f2.f4.f0.f0, .string c.f2.f4.f0.f1, .string c.f2.f4.f0.f2, .int .i64 c.f2.f4.f1, .string c.f2.f4.f2, .int .i64 c.f3.f0, .string c.f3.f1.f0, .string c.f3.f1.f1, .string c.f3.f1.f2, .int .i64 c.f3.f2, .string c.f3.f3.f0, .string c.f3.f3.f1, .string c.f3.f4.f0.f0, .string c.f3.f4.f0.f1, .string c.f3.f4.f0.f2, .int .i64 c.f3.f4.f1, .string c.f3.f4.f2, .string c.f4.f0.f0, .string c.f4.f0.f1, .string c.f4.f0.f2, .int .i64 c.f4.f1, .string c.f4.f2, .string c.f5.f0, .string c.f5.f1, .string c.f6, .string c.f7.f0, .string c.f7.f1, .string c.f7.f2, .slice A c.f8.length c0]) _ (fun w' hw' => range_blk hw'.1 0 38 _ (by kernel_rfl)) Try.underlying60 rfl (by kernel_rfl)) hHeld ?_ ?_
    rotate_left
    · simp only [Act.put, List.setIfInBounds_toArray, List.set_cons_zero, List.set_cons_succ, i64_w, i32_w]
      rfl
    refine take_ (i := 11) (N := some 16) (v := ?_) (a' := ?_) #[true, true, true, true, true, true, true, true, true, false, true, true, false, false, false, false, false] rfl rfl (by kernel_rfl) (fun _ _ _ h => h) (Or.inl ⟨by rfl, ?_⟩) hHeld ?_ ?_
    rotate_left
    · rintro w' ⟨s0, s1, s2, s3, s4⟩
      go_simp
      with_reducible rfl
    rotate_left
    · simp only [Act.put, List.setIfInBounds_toArray, List.set_cons_zero, List.set_cons_succ, i64_w, i32_w]
      rfl
    refine one_ (i := 9) (N := some 14) #[true, true, true, true, true, true, true, true, true, true, true, true, false, false, false, false, false] rfl rfl (by kernel_rfl) (by decide) (fun K hK => ?_)
    refine goes_ Try.func24 (by kernel_rfl) rfl #[.agg (List.toArray ((.int .i64 c.f0) :: (.int .i64 c.f1) :: (.int .i64 c.f2.f0) :: (.string c.f2.f1.f0) :: (.string c.f2.f1.f1) :: (.string c.f2.f1.f2) :: (.int .i64 c.f2.f2) :: (.string c.f2.f3.f0) :: [.string c.f2.f3.f1, .string c.f2.f4.f0.f0, .string c.f2.f4.f0.f1, .string c.f2.f4.f0.f2, .int .i64 c.f2.f4.f1, .string c.f2.f4.f2, .int .i64 c.f3.f0, .string c.f3.f1.f0, .string c.f3.f1.f1, .string c.f3.f1.f2, .int .i64 c.f3.f2, .string c.f3.f3.f0, .string c.f3.f3.f1, .string c.f3.f4.f0.f0, .string c.f3.f4.f0.f1, .string c.f3.f4.f0.f2, .int .i64 c.f3.f4.f1, .string c.f3.f4.f2, .string c.f4.f0.f0, .string c.f4.f0.f1, .string c.f4.f0.f2, .int .i64 c.f4.f1, .string c.f4.f2, .string c.f5.f0, .string c.f5.f1, .string c.f6, .string c.f7.f0, .string c.f7.f1, .string c.f7.f2, .slice A c.f8.length c0])), .agg #[.string t.f0, .string t.f1, .string t.f2]] (by rfl) rfl rfl (by (try simp only [List.map_toArray, List.map_cons, List.map_nil]); first | done | rfl) ?_
    refine (gen_passAny c A c0 t w1 (Kd.C_below HCA.out HB1.out) HCC.out HLE.out).mono ?_
    rintro e w4 ⟨v4, rfl, hR, hb⟩
    refine ⟨_, rfl, ?_⟩
    have xk := blk_below yk hb
    have x0 := (hb.cell (World.block_lt_of_cell? _ _ y0)).trans y0
    have x1 := (hb.cell (World.block_lt_of_cell? _ _ y1)).trans y1
    have x2 := (hb.cell (World.block_lt_of_cell? _ _ y2)).trans y2
    have x3 := (hb.cell (World.block_lt_of_cell? _ _ y3)).trans y3
    have HB4 := Aside0.mk (HB1.out.trans (hb.mono HS1.out))
    have HS4 := Aside0.mk (Nat.le_trans HS1.out hb.size)
    have HR4 := Aside0.mk hR
    clear hb hR
    refine hK.out _ _ ⟨xk, x0, x1, x2, x3⟩ (fun hHeld => ?_)
    clear hK K
    refine norm_ (a' := ?_) ?_ ?_
    rotate_left
    · show Act.put _ (some 14) _ = _
      simp only [Act.put, List.setIfInBounds_toArray, List.set_cons_zero, List.set_cons_succ, i64_w, i32_w]
      rfl
    refine one_ (i := 12) (N := some 17) #[true, true, true, true, true, true, true, true, true, true, true, true, true, false, false, false, false] rfl rfl (by kernel_rfl) (by decide) (fun K hK => ?_)
    refine goes_ Try.func25 (by kernel_rfl) rfl #[.agg (List.toArray ((.int .i64 c.f0) :: (.int .i64 c.f1) :: (.int .i64 c.f2.f0) :: (.string c.f2.f1.f0) :: (.string c.f2.f1.f1) :: (.string c.f2.f1.f2) :: (.int .i64 c.f2.f2) :: (.string c.f2.f3.f0) :: [.string c.f2.f3.f1, .string c.f2.f4.f0.f0, .string c.f2.f4.f0.f1, .string c.f2.f4.f0.f2, .int .i64 c.f2.f4.f1, .string c.f2.f4.f2, .int .i64 c.f3.f0, .string c.f3.f1.f0, .string c.f3.f1.f1, .string c.f3.f1.f2, .int .i64 c.f3.f2, .string c.f3.f3.f0, .string c.f3.f3.f1, .string c.f3.f4.f0.f0, .string c.f3.f4.f0.f1, .string c.f3.f4.f0.f2, .int .i64 c.f3.f4.f1, .string c.f3.f4.f2, .string c.f4.f0.f0, .string c.f4.f0.f1, .string c.f4.f0.f2, .int .i64 c.f4.f1, .string c.f4.f2, .string c.f5.f0, .string c.f5.f1, .string c.f6, .string c.f7.f0, .string c.f7.f1, .string c.f7.f2, .slice A c.f8.length c0])), .agg #[.string t.f0, .string t.f1, .string t.f2]] (by rfl) rfl rfl (by (try simp only [List.map_toArray, List.map_cons, List.map_nil]); first | done | rfl) ?_
    refine (ref_passAny c A c0 t w4 (Kd.C_below HCA.out HB4.out) HCC.out HLE.out).mono ?_
    rintro e w5 ⟨v5, rfl, hR, hb⟩
    refine ⟨_, rfl, ?_⟩
    have uk := blk_below xk hb
    have u0 := (hb.cell (World.block_lt_of_cell? _ _ x0)).trans x0
    have u1 := (hb.cell (World.block_lt_of_cell? _ _ x1)).trans x1
    have u2 := (hb.cell (World.block_lt_of_cell? _ _ x2)).trans x2
    have u3 := (hb.cell (World.block_lt_of_cell? _ _ x3)).trans x3
    have HB5 := Aside0.mk (HB4.out.trans (hb.mono HS4.out))
    have HS5 := Aside0.mk (Nat.le_trans HS4.out hb.size)
    have HR5 := Aside0.mk hR
    have HR45 := Aside0.mk (Kd.R_below HR4.out hb)
    clear hb hR
    refine hK.out _ _ ⟨uk, u0, u1, u2, u3⟩ (fun hHeld => ?_)
    clear hK K
    refine norm_ (a' := ?_) ?_ ?_
    rotate_left
    · show Act.put _ (some 17) _ = _
      simp only [Act.put, List.setIfInBounds_toArray, List.set_cons_zero, List.set_cons_succ, i64_w, i32_w]
      rfl
    refine one_ (i := 13) (N := some 18) #[true, true, true, true, true, true, true, true, true, true, true, true, true, true, false, false, false] rfl rfl (by kernel_rfl) (by decide) (fun K hK => ?_)
    refine goes_ Try.func23 (by kernel_rfl) rfl #[v4, v5] (by rfl) rfl rfl (by (try simp only [List.map_toArray, List.map_cons, List.map_nil]); first | done | rfl) ?_
    refine (ref_same (passAny c t) (passAny_f8 c t) _ _ _ _ v4 v5 w5 HR45.out HR5.out (Nat.le_trans (passAny_len c t) (by have := HLE.out; omega))).mono ?_
    rintro e w6 ⟨rfl, hb⟩
    refine ⟨_, rfl, ?_⟩
    have HB6 := Aside0.mk (HB5.out.trans (hb.mono HS5.out))
    have qk := blk_below uk hb
    have q0 := (hb.cell (World.block_lt_of_cell? _ _ u0)).trans u0
    have q1 := (hb.cell (World.block_lt_of_cell? _ _ u1)).trans u1
    have q2 := (hb.cell (World.block_lt_of_cell? _ _ u2)).trans u2
    have q3 := (hb.cell (World.block_lt_of_cell? _ _ u3)).trans u3
    clear hb
    refine hK.out _ _ ⟨qk, q0, q1, q2, q3⟩ (fun hHeld => ?_)
    clear hK K
    refine norm_ (a' := ?_) ?_ ?_
    rotate_left
    · show Act.put _ (some 18) _ = _
      simp only [Act.put, List.setIfInBounds_toArray, List.set_cons_zero, List.set_cons_succ, i64_w, i32_w]
      rfl
    refine pure_ (i := 14) (N := some 19) (v := ?_) (a' := ?_) #[true, true, true, true, true, true, true, true, true, true, true, true, true, true, true, false, false] rfl rfl (by kernel_rfl) (fun _ _ _ h => h) (Or.inl ⟨by rfl, ?_⟩) ?_ ?_
    rotate_left
    · intro w'
      go_simp
      with_reducible rfl
    rotate_left
    · simp only [Act.put, List.setIfInBounds_toArray, List.set_cons_zero, List.set_cons_succ, i64_w, i32_w]
      rfl
    refine pure_ (i := 15) (N := some 20) (v := ?_) (a' := ?_) #[true, true, true, true, true, true, true, true, true, true, true, true, true, true, true, true, false] rfl rfl (by kernel_rfl) (fun _ _ _ h => h) (Or.inl ⟨by rfl, ?_⟩) ?_ ?_
    rotate_left
    · intro w'
      go_simp
      with_reducible rfl
    rotate_left
    · simp only [Act.put, List.setIfInBounds_toArray, List.set_cons_zero, List.set_cons_succ, i64_w, i32_w]
      rfl
    refine pure_ (i := 16) (N := some 4) (v := ?_) (a' := ?_) #[true, true, true, true, true, true, true, true, true, true, true, true, true, true, true, true, true] rfl rfl (by kernel_rfl) (fun _ _ _ h => h) (Or.inl ⟨by rfl, ?_⟩) ?_ ?_
    rotate_left
    · intro w'
      go_simp
      with_reducible rfl
    rotate_left
    · simp only [Act.put, List.setIfInBounds_toArray, List.set_cons_zero, List.set_cons_succ, i64_w, i32_w]
      rfl
    refine done_ (by kernel_rfl) ?_
    go_wp2_with fail
    exact bodyPost_ret (results_tmp rfl _ _ _) rfl ⟨rfl, HB6.out⟩
namespace Op
section
variable {H : Type} {enc : TypeId × Value → H} {w : World} {base : Nat} {spare : Nat → Bool} {held : Bool}
theorem opens_mref2 : Opens enc Try.prog w base spare held k25 (fun _ => True) 25 :=
  opens_mono (opens_iso (fun p => ⟨p.1, p.2.1, p.2.2⟩) (fun _ => rfl) (opens_struct Try.underlying25 (by kernel_rfl) (fields_cons rfl (by kernel_rfl) (opens_str Try.underlying9) (fields_cons rfl (by kernel_rfl) (opens_str Try.underlying9) (fields_one rfl (by kernel_rfl) (opens_str Try.underlying9)))))) (fun _ _ => trivial)
theorem opens_fref2 : Opens enc Try.prog w base spare held k44 (fun _ => True) 44 :=
  opens_mono (opens_iso (fun p => ⟨p.1, p.2⟩) (fun _ => rfl) (opens_struct Try.underlying44 (by kernel_rfl) (fields_cons rfl (by kernel_rfl) (opens_str Try.underlying9) (fields_one rfl (by kernel_rfl) (opens_str Try.underlying9))))) (fun _ _ => trivial)
theorem opens_site2 : Opens enc Try.prog w base spare held k46 (fun _ => True) 46 :=
  opens_mono (opens_iso (fun p => ⟨p.1, p.2.1, p.2.2⟩) (fun _ => rfl) (opens_struct Try.underlying46 (by kernel_rfl) (fields_cons rfl (by kernel_rfl) opens_mref2 (fields_cons rfl (by kernel_rfl) (opens_int Try.underlying3) (fields_one rfl (by kernel_rfl) (opens_str Try.underlying9)))))) (fun _ _ => trivial)
theorem opens_place2 : Opens enc Try.prog w base spare held k50 (fun _ => True) 50 :=
  opens_mono (opens_iso (fun p => ⟨p.1, p.2.1, p.2.2.1, p.2.2.2.1, p.2.2.2.2⟩) (fun _ => rfl) (opens_struct Try.underlying50 (by kernel_rfl) (fields_cons rfl (by kernel_rfl) (opens_int Try.underlying48) (fields_cons rfl (by kernel_rfl) opens_mref2 (fields_cons rfl (by kernel_rfl) (opens_int Try.underlying3) (fields_cons rfl (by kernel_rfl) opens_fref2 (fields_one rfl (by kernel_rfl) opens_site2))))))) (fun _ _ => trivial)
theorem opens_cons2 : Opens enc Try.prog w base spare held k60 (fun _ => True) 60 :=
  opens_mono (opens_iso (fun p => ⟨p.1, p.2.1, p.2.2.1, p.2.2.2.1, p.2.2.2.2.1, p.2.2.2.2.2.1, p.2.2.2.2.2.2.1, p.2.2.2.2.2.2.2.1, p.2.2.2.2.2.2.2.2⟩) (fun _ => rfl) (opens_struct Try.underlying60 (by kernel_rfl) (fields_cons rfl (by kernel_rfl) (opens_int Try.underlying57) (fields_cons rfl (by kernel_rfl) (opens_int Try.underlying3) (fields_cons rfl (by kernel_rfl) opens_place2 (fields_cons rfl (by kernel_rfl) opens_place2 (fields_cons rfl (by kernel_rfl) opens_site2 (fields_cons rfl (by kernel_rfl) opens_fref2 (fields_cons rfl (by kernel_rfl) (opens_str Try.underlying9) (fields_cons rfl (by kernel_rfl) opens_mref2 (fields_one rfl (by kernel_rfl) (opens_slice Try.underlying58 (by kernel_rfl) (of_decide_eq_true (by kernel_rfl)) (opens_int Try.underlying3))))))))))))) (fun _ _ => trivial)
theorem open_cons {r : Reach} {b0 : Nat} {v : Value} {d : DataW H} {ps : List MemPlace} (hw : ∀ n ∈ d.weights Try.prog 60, n ≤ reachBytes) (hval : Value.okWide Try.prog w r b0 60 v) (hd : DataW.Trod enc Try.prog w base spare held 60 v d ps) :
    ∃ (c : S60) (A : Option Addr) (c0 : Nat), v = .agg (List.toArray ((.int .i64 c.f0) :: (.int .i64 c.f1) :: (.int .i64 c.f2.f0) :: (.string c.f2.f1.f0) :: (.string c.f2.f1.f1) :: (.string c.f2.f1.f2) :: (.int .i64 c.f2.f2) :: (.string c.f2.f3.f0) :: [.string c.f2.f3.f1, .string c.f2.f4.f0.f0, .string c.f2.f4.f0.f1, .string c.f2.f4.f0.f2, .int .i64 c.f2.f4.f1, .string c.f2.f4.f2, .int .i64 c.f3.f0, .string c.f3.f1.f0, .string c.f3.f1.f1, .string c.f3.f1.f2, .int .i64 c.f3.f2, .string c.f3.f3.f0, .string c.f3.f3.f1, .string c.f3.f4.f0.f0, .string c.f3.f4.f0.f1, .string c.f3.f4.f0.f2, .int .i64 c.f3.f4.f1, .string c.f3.f4.f2, .string c.f4.f0.f0, .string c.f4.f0.f1, .string c.f4.f0.f2, .int .i64 c.f4.f1, .string c.f4.f2, .string c.f5.f0, .string c.f5.f1, .string c.f6, .string c.f7.f0, .string c.f7.f1, .string c.f7.f2, .slice A c.f8.length c0])) ∧ Kd.C (Kd.int .i64) w A c.f8.length c.f8 ∧ c.f8.length ≤ c0 := by
  obtain ⟨c, cs, rfl, hK, _⟩ := open_agg Try.underlying60 opens_cons2 hw hval hd
  obtain ⟨A, c0, rfl, l, g⟩ := k60_open hK
  exact ⟨c, A, c0, rfl, g, l⟩
end
end Op
end Go.Proofs.Ytfplcohjnlbfjaa.Hand
end
