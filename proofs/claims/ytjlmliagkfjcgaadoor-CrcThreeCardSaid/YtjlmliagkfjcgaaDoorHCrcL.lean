import Derived.Test.YtjlmliagkfjcgaaDoorHCrcR
import Derived.Lib.SlBytesConst
namespace Go.Proofs.YtjlmliagkfjcgaaDoor.Hand
open Go.RowKit Go.Proofs.YtjlmliagkfjcgaaDoorW.PrintWords Go.Proofs.YtjlmliagkfjcgaaDoorW.PrintLast Go.Proofs.YtjlmliagkfjcgaaDoorW.PrintMore
set_option linter.unusedVariables false
set_option linter.unusedSimpArgs false

theorem C_alloc_mark (W : World) (k : IntKind) (t : TypeId) (fr : Nat × Nat) (cs : List Int) (hm : cs.length ≤ 9223372036854775807) : (Kd.int k).C (W.alloc (.cells ((nums k cs).toArray) t fr)) (some ⟨W.heap.size, 0, none⟩) cs.length cs := by
  refine Kd.C_of_reads (d := (0 : Int)) (h1 := fun _ => rfl) ⟨rfl, hm, fun _ => ⟨⟨W.heap.size, 0, none⟩, rfl, fun j hj => ?_⟩⟩
  have e : (⟨W.heap.size, 0, none⟩ : Addr).add j = ⟨W.heap.size, j, none⟩ := by simp [Addr.add]; intro h0; exact h0.symm
  rw [e, World.cell?_alloc_mark]
  simp [nums, List.getElem?_eq_getElem hj, List.getD]
@[go_sem] theorem u32_signed : IntKind.u32.signed = false := rfl
def secateurlaw02_live.f : Option Bool := some true
set_option maxHeartbeats 8000000 in
set_option maxRecDepth 100000 in
theorem secateurlaw02_live.calls (r : Bool) (w : World) (hGCrcTab : CrcTab w) (h : secateurlaw02_live.f = some r) :
    Calls Tryd.prog 22 #[] w fun e w' => e = .returned (.bool r) ∧ Below w.heap.size w w' := by
  obtain rfl := Option.some.inj h
  have HG := Aside0.mk hGCrcTab
  clear hGCrcTab h
  have hcv : ∀ (W : World) (C : Array Value), (convert 23 23 (.slice (some ⟨W.heap.size, 0, none⟩) 2 2)).run Tryd.prog (W.alloc (.cells C 5)) = .ok (.slice (some ⟨W.heap.size, 0, none⟩) 2 2) (W.alloc (.cells C 5 (C.size, C.size + 1))) := fun W C => Lib.run_convert_bytes_const W _ _ C 2 2 Tryd.underlying23 Tryd.underlying5
  have hcv9 : ∀ (W : World) (C : Array Value), (convert 23 23 (.slice (some ⟨W.heap.size, 0, none⟩) 9 9)).run Tryd.prog (W.alloc (.cells C 5)) = .ok (.slice (some ⟨W.heap.size, 0, none⟩) 9 9) (W.alloc (.cells C 5 (C.size, C.size + 1))) := fun W C => Lib.run_convert_bytes_const W _ _ C 9 9 Tryd.underlying23 Tryd.underlying5
  obtain ⟨x, hx⟩ : ∃ x, x = sealL [97, 98] := ⟨_, rfl⟩
  have hf1 : crc_Seal.f [97, 98] = some x := by rw [hx]; rfl
  have hf2 : crc_Open.f x = some ([97, 98], 0) := by rw [hx]; decide +kernel
  have hf3 : crc_Open.f [] = some ([], 2) := by decide +kernel
  have hf4 : crc_Sum.f [49, 50, 51, 52, 53, 54, 55, 56, 57] = some 3421780262 := by decide +kernel
  have hf5 : crc_Begin.f = some 4294967295 := rfl
  have hf6 : crc_End.f 4294967295 = some 0 := by decide +kernel
  clear hx
  have F1 := Aside0.mk hf1; have F2 := Aside0.mk hf2; have F3 := Aside0.mk hf3; have F4 := Aside0.mk hf4; have F5 := Aside0.mk hf5; have F6 := Aside0.mk hf6
  clear hf1 hf2 hf3 hf4 hf5 hf6
  have HB0 := Aside0.mk (below_alloc (Below.refl w.heap.size w) (.cells #[.int .u8 97, .int .u8 98] 5 (2, 3)))
  have HC1 := Aside0.mk (C_alloc_mark w .u8 5 (2, 3) [97, 98] (by decide))
  go_enter Tryd.func22, Tryd.ntmps22
  go_wp2_with fail
  refine (crc_Seal.calls _ 2 [97, 98] x _ HC1.out (by decide) (HG.out.below HB0.out) F1.out).mono ?_
  rintro e w1 ⟨v1, rfl, hR1, hb1⟩
  obtain ⟨A1, c1, rfl⟩ := Kd.R_slice hR1
  have HR1 := Aside0.mk hR1
  have HB1 := Aside0.mk (below_step HB0.out hb1)
  clear hR1 hb1 HC1
  go_wp2_with fail
  refine (crc_Open.calls A1 c1 x [97, 98] 0 _ (Kd.R_reads' HR1.out).2.2 (Kd.R_reads' HR1.out).2.1 (HG.out.below HB1.out) F2.out).mono ?_
  rintro e w2 ⟨v2, rfl, hR2, hb2⟩
  have HR2 := Aside0.mk hR2
  have HB2 := Aside0.mk (below_step HB1.out hb2)
  clear hR2 hb2 HB0 HB1 HR1
  go_wp2_with fail
  refine (crc_Open.calls none 0 [] [] 2 _ (Kd.C_nil _ _) (by decide) (HG.out.below HB2.out) F3.out).mono ?_
  rintro e w3 ⟨v3, rfl, hR3, hb3⟩
  have HR3 := Aside0.mk (Kd.R_below HR2.out hb3)
  have HB3 := Aside0.mk (below_step HB2.out hb3)
  clear hR3 hb3 HB2 HR2
  have HC4 := Aside0.mk (C_alloc_mark w3 .u8 5 (9, 10) [49, 50, 51, 52, 53, 54, 55, 56, 57] (by decide))
  have HB4 := Aside0.mk (below_alloc HB3.out (.cells #[.int .u8 49, .int .u8 50, .int .u8 51, .int .u8 52, .int .u8 53, .int .u8 54, .int .u8 55, .int .u8 56, .int .u8 57] 5 (9, 10)))
  go_wp2_with fail
  refine (crc_Sum.calls _ 9 [49, 50, 51, 52, 53, 54, 55, 56, 57] _ _ HC4.out (by decide) (HG.out.below HB4.out) F4.out).mono ?_
  rintro e w5 ⟨rfl, hd⟩
  have HB5 := Aside0.mk (below_step HB4.out hd.below)
  have HR5 := Kd.R_below (Kd.R_alloc HR3.out (.cells #[.int .u8 49, .int .u8 50, .int .u8 51, .int .u8 52, .int .u8 53, .int .u8 54, .int .u8 55, .int .u8 56, .int .u8 57] 5 (9, 10))) hd.below
  have hcv67 := own_string (P := Tryd.prog) Tryd.underlying23 Tryd.underlying5 Tryd.underlying9 (Kd.own_of_R HR5)
  clear HR5 HR3 HB3 HB4 HC4 hd
  have hst : strOfNums [97, 98] = { data := #[97, 98] } := rfl
  rw [hst] at hcv67
  go_wp2_with fail
  refine (crc_Begin.calls _ _ F5.out).mono ?_
  rintro e w6 ⟨rfl, hd⟩
  have HB6 := Aside0.mk (below_step HB5.out hd.below)
  clear hd HB5
  go_wp2_with fail
  refine (crc_Begin.calls _ _ F5.out).mono ?_
  rintro e w7 ⟨rfl, hd⟩
  have HB7 := Aside0.mk (below_step HB6.out hd.below)
  clear hd HB6
  go_wp2_with fail
  refine (crc_End.calls _ _ _ F6.out).mono ?_
  rintro e w8 ⟨rfl, hd⟩
  have HB8 := Aside0.mk (below_step HB7.out hd.below)
  clear hd HB7
  go_wp2
  go_ret
  exact ⟨rfl, HB8.out⟩
end Go.Proofs.YtjlmliagkfjcgaaDoor.Hand
