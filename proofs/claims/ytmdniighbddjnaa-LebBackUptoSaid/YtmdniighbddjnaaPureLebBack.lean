/- What is taken is what was put, wherever it stands, and what is taken is put so: where the arguments' bulk is at most the bound of the second form. -/
import Derived.Test.YtmdniighbddjnaaPLebBackx1
import Derived.Test.YtmdniighbddjnaaHLebP
namespace Go.Proofs.Ytmdniighbddjnaa.Pure
open Go.RowKit Go.Proofs.Ytmdniighbddjnaa.Hand Go.Proofs.Ytmdniighbddjnaa.PLebBack Go.Proofs.YtmdniighbddjnaaW.PrintWords Go.Proofs.YtmdniighbddjnaaW.PrintLast
theorem LebBack_live : secateurlaw01_live.f = some true := by decide +kernel
theorem LebBack : secateurlaw01_LebBack.Pure := by
  intro a0 l1 l2 h0 _ hl1 hb1 _ hl2 hb2
  have g0 := u64B_wf h0
  have c1 := bytes_wf hb1
  have c2 := bytes_wf hb2
  have hp := lebPut_length_le a0
  have hall : (l1 ++ lebPut a0 ++ l2).all byteB = true := by simp only [List.all_append, c1, c2, lebPut_bytes, Bool.and_self]
  have hlen : (l1 ++ lebPut a0 ++ l2).length ≤ 281474976710656 := by simp only [List.length_append]; omega
  have ht := lebTake_put a0 g0 l1 l2
  refine ⟨1, ?_⟩
  unfold secateurlaw01_LebBack.f
  rw [if_pos (by simp; omega), Option.bind_some, List.nil_append, put_some g0, Option.bind_some, if_pos (by omega), Option.bind_some, if_pos (by simp only [List.length_append]; omega), take_some _ hall hlen, Option.bind_some, LebBack_live, Option.bind_some, if_pos rfl, ht]
  rw [if_pos rfl, size_some g0, Option.bind_some, w64 (by omega) (by omega), if_pos rfl]
  have e : ((0 : Int) != 0) = false := rfl
  show secateurlaw01_LebBack.j0 1 l2 ((0 : Int) != 0) = some true
  rw [e, secateurlaw01_LebBack.j0, if_neg (by simp), take_some 0 c2 (by omega), Option.bind_some]
  by_cases hz : (lebTake l2 0).2.2 = 0
  · have hr := lebPut_take l2 0 c2 hz
    obtain ⟨hu, c, hc1, hc2, hc3, hc4⟩ := hr
    simp only [Int.natCast_zero, Int.zero_add, List.drop_zero] at hu hc1 hc4
    rw [if_pos hz, put_some hu, Option.bind_some, hc1, if_pos (by omega), if_pos (by omega), hc4]
    simp [secateurref01_SameBytes.f]
  · rw [if_neg hz]
end Go.Proofs.Ytmdniighbddjnaa.Pure
