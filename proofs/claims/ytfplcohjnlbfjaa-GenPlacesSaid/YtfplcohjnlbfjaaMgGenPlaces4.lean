import Derived.Test.YtfplcohjnlbfjaaMgGenPlaces2
import Derived.Test.YtfplcohjnlbfjaaMgGenPlaces3
import Derived.Test.YtfplcohjnlbfjaaRows
import Derived.OpenShut
import Derived.SliceStrings
import Derived.ProofKit
import Derived.Test.YtfplcohjnlbfjaaMgGenPlaces0
import Derived.ChangeSame
import Derived.Lib.SmallJoins
import Derived.SizedLaws
import Derived.Test.YtfplcohjnlbfjaaMgGenPlaces1
section
namespace Go.Proofs.Ytfplcohjnlbfjaa.PGenPlaces
open Go.RowKit Go.Proofs.YtfplcohjnlbfjaaW.PrintWords Go.Proofs.YtfplcohjnlbfjaaW.PrintLast Go.Proofs.YtfplcohjnlbfjaaW.PrintMore Go.Proofs.Ytfplcohjnlbfjaa.Hand
attribute [local go_sem] max2_int min2_int max_two min_two max_three min_three max_four min_four   -- for this text's walks alone
set_option linter.unusedVariables false
set_option linter.unusedSimpArgs false
attribute [local go_sem high] eqA50
def secateurlaw25_GenPlaces.f (a0_0 : ByteArray) (a0_1 : ByteArray) (a0_2 : ByteArray) (a1_0 : ByteArray) (a1_1 : ByteArray) (a2_0 : ByteArray) (a2_1 : ByteArray) (a2_2 : ByteArray) (a2_3 : Int) (a2_4 : ByteArray) : Option (Bool) := (secateurlaw25_live.f).bind fun t126 => (if t126 = true then ((gen_Reg.f a0_0 a0_1 a0_2 a2_3).bind fun bt127 => ((secateurref25_Reg.f a0_0 a0_1 a0_2 a2_3).bind fun bt139 => (if (bt127.1 == bt139.1 && ((bt127.2.1.toList == bt139.2.1.toList && (bt127.2.2.1.toList == bt139.2.2.1.toList && (bt127.2.2.2.1.toList == bt139.2.2.2.1.toList))) && (bt127.2.2.2.2.1 == bt139.2.2.2.2.1 && ((bt127.2.2.2.2.2.1.toList == bt139.2.2.2.2.2.1.toList && (bt127.2.2.2.2.2.2.1.toList == bt139.2.2.2.2.2.2.1.toList)) && (((bt127.2.2.2.2.2.2.2.1.toList == bt139.2.2.2.2.2.2.2.1.toList && (bt127.2.2.2.2.2.2.2.2.1.toList == bt139.2.2.2.2.2.2.2.2.1.toList && (bt127.2.2.2.2.2.2.2.2.2.1.toList == bt139.2.2.2.2.2.2.2.2.2.1.toList))) && (bt127.2.2.2.2.2.2.2.2.2.2.1 == bt139.2.2.2.2.2.2.2.2.2.2.1 && (bt127.2.2.2.2.2.2.2.2.2.2.2.toList == bt139.2.2.2.2.2.2.2.2.2.2.2.toList)))))))) = true then ((gen_Ret.f a0_0 a0_1 a0_2).bind fun bt151 => ((secateurref25_Ret.f a0_0 a0_1 a0_2).bind fun bt163 => (if (bt151.1 == bt163.1 && ((bt151.2.1.toList == bt163.2.1.toList && (bt151.2.2.1.toList == bt163.2.2.1.toList && (bt151.2.2.2.1.toList == bt163.2.2.2.1.toList))) && (bt151.2.2.2.2.1 == bt163.2.2.2.2.1 && ((bt151.2.2.2.2.2.1.toList == bt163.2.2.2.2.2.1.toList && (bt151.2.2.2.2.2.2.1.toList == bt163.2.2.2.2.2.2.1.toList)) && (((bt151.2.2.2.2.2.2.2.1.toList == bt163.2.2.2.2.2.2.2.1.toList && (bt151.2.2.2.2.2.2.2.2.1.toList == bt163.2.2.2.2.2.2.2.2.1.toList && (bt151.2.2.2.2.2.2.2.2.2.1.toList == bt163.2.2.2.2.2.2.2.2.2.1.toList))) && (bt151.2.2.2.2.2.2.2.2.2.2.1 == bt163.2.2.2.2.2.2.2.2.2.2.1 && (bt151.2.2.2.2.2.2.2.2.2.2.2.toList == bt163.2.2.2.2.2.2.2.2.2.2.2.toList)))))))) = true then ((gen_Static.f a1_0 a1_1).bind fun bt175 => ((secateurref25_Static.f a1_0 a1_1).bind fun bt187 => (if (bt175.1 == bt187.1 && ((bt175.2.1.toList == bt187.2.1.toList && (bt175.2.2.1.toList == bt187.2.2.1.toList && (bt175.2.2.2.1.toList == bt187.2.2.2.1.toList))) && (bt175.2.2.2.2.1 == bt187.2.2.2.2.1 && ((bt175.2.2.2.2.2.1.toList == bt187.2.2.2.2.2.1.toList && (bt175.2.2.2.2.2.2.1.toList == bt187.2.2.2.2.2.2.1.toList)) && (((bt175.2.2.2.2.2.2.2.1.toList == bt187.2.2.2.2.2.2.2.1.toList && (bt175.2.2.2.2.2.2.2.2.1.toList == bt187.2.2.2.2.2.2.2.2.1.toList && (bt175.2.2.2.2.2.2.2.2.2.1.toList == bt187.2.2.2.2.2.2.2.2.2.1.toList))) && (bt175.2.2.2.2.2.2.2.2.2.2.1 == bt187.2.2.2.2.2.2.2.2.2.2.1 && (bt175.2.2.2.2.2.2.2.2.2.2.2.toList == bt187.2.2.2.2.2.2.2.2.2.2.2.toList)))))))) = true then ((gen_Field.f a2_0 a2_1 a2_2 a2_3 a2_4 a1_0 a1_1).bind fun bt199 => ((secateurref25_Field.f a2_0 a2_1 a2_2 a2_3 a2_4 a1_0 a1_1).bind fun bt211 => (if (bt199.1 == bt211.1 && ((bt199.2.1.toList == bt211.2.1.toList && (bt199.2.2.1.toList == bt211.2.2.1.toList && (bt199.2.2.2.1.toList == bt211.2.2.2.1.toList))) && (bt199.2.2.2.2.1 == bt211.2.2.2.2.1 && ((bt199.2.2.2.2.2.1.toList == bt211.2.2.2.2.2.1.toList && (bt199.2.2.2.2.2.2.1.toList == bt211.2.2.2.2.2.2.1.toList)) && (((bt199.2.2.2.2.2.2.2.1.toList == bt211.2.2.2.2.2.2.2.1.toList && (bt199.2.2.2.2.2.2.2.2.1.toList == bt211.2.2.2.2.2.2.2.2.1.toList && (bt199.2.2.2.2.2.2.2.2.2.1.toList == bt211.2.2.2.2.2.2.2.2.2.1.toList))) && (bt199.2.2.2.2.2.2.2.2.2.2.1 == bt211.2.2.2.2.2.2.2.2.2.2.1 && (bt199.2.2.2.2.2.2.2.2.2.2.2.toList == bt211.2.2.2.2.2.2.2.2.2.2.2.toList)))))))) = true then ((gen_Element.f a2_0 a2_1 a2_2 a2_3 a2_4).bind fun bt223 => ((secateurref25_Element.f a2_0 a2_1 a2_2 a2_3 a2_4).bind fun bt235 => (some (bt223.1 == bt235.1 && ((bt223.2.1.toList == bt235.2.1.toList && (bt223.2.2.1.toList == bt235.2.2.1.toList && (bt223.2.2.2.1.toList == bt235.2.2.2.1.toList))) && (bt223.2.2.2.2.1 == bt235.2.2.2.2.1 && ((bt223.2.2.2.2.2.1.toList == bt235.2.2.2.2.2.1.toList && (bt223.2.2.2.2.2.2.1.toList == bt235.2.2.2.2.2.2.1.toList)) && (((bt223.2.2.2.2.2.2.2.1.toList == bt235.2.2.2.2.2.2.2.1.toList && (bt223.2.2.2.2.2.2.2.2.1.toList == bt235.2.2.2.2.2.2.2.2.1.toList && (bt223.2.2.2.2.2.2.2.2.2.1.toList == bt235.2.2.2.2.2.2.2.2.2.1.toList))) && (bt223.2.2.2.2.2.2.2.2.2.2.1 == bt235.2.2.2.2.2.2.2.2.2.2.1 && (bt223.2.2.2.2.2.2.2.2.2.2.2.toList == bt235.2.2.2.2.2.2.2.2.2.2.2.toList))))))))))) else (some false)))) else (some false)))) else (some false)))) else (some false)))) else (some false))
def secateurlaw25_GenPlaces.T2 : Bool × List (List Nat × List Nat) := (true, [([], []), ([0, 0], [0]), ([1], [1]), ([1], [1]), ([2, 3, 1, 1], [1, 2, 3]), ([1], [1]), ([1], [1]), ([5, 6, 4, 1], [1, 5, 6]), ([4, 7, 1], [1, 4, 7]), ([1, 8], [1, 8]), ([9, 7], [9]), ([10], [10]), ([11, 10, 10], [10, 11]), ([10], [10]), ([13, 12, 10], [10, 13]), ([12, 14, 10], [10, 12, 14]), ([10, 15], [10, 15]), ([16, 14], [16]), ([17], [17]), ([18, 17, 17], [17, 18]), ([17], [17]), ([20, 19, 17], [17, 20]), ([19, 21, 17], [17, 19, 21]), ([17, 22], [17, 22]), ([23, 21], [23]), ([24], [24]), ([24], [24]), ([25, 26, 24, 24], [24, 25, 26]), ([24], [24]), ([24], [24]), ([28, 29, 27, 24], [24, 28, 29]), ([27, 30, 24], [24, 27, 30]), ([24, 31], [24, 31]), ([32, 30], [32]), ([33], [33]), ([34, 33, 33], [33, 34]), ([33], [33]), ([36, 35, 33], [33, 36]), ([35, 37, 33], [33, 35, 37]), ([33, 38], [33, 38]), ([39, 37, 0, 1, 2, 3, 4, 5, 6, 7, 8, 9, 10, 11, 12, 13, 14, 15, 16, 17, 18, 19, 20, 21, 22, 23, 24, 25, 26, 27, 28, 29, 30, 31, 32, 33, 34, 35, 36, 37, 38, 39], [39])])
def secateurlaw25_GenPlaces.B2 : List Nat := [0, 1, 3, 3, 15, 3, 3, 127, 255, 511, 1023, 2047, 4095, 2047, 16383, 32767, 65535, 131071, 262143, 524287, 262143, 2097151, 4194303, 8388607, 16777215, 33554431, 33554431, 134217727, 33554431, 33554431, 1073741823, 2147483647, 4294967295, 8589934591, 17179869183, 34359738367, 17179869183, 137438953471, 274877906943, 549755813887, 1099511627775]
theorem secateurlaw25_GenPlaces.tab2 : rtab .any (opsOf Try.f4 2) = secateurlaw25_GenPlaces.T2 := by kernel_rfl
theorem secateurlaw25_GenPlaces.bits2 : waitsOk secateurlaw25_GenPlaces.T2.2 secateurlaw25_GenPlaces.B2 = true := by kernel_rfl
set_option maxHeartbeats 8000000 in
set_option maxRecDepth 100000 in
theorem secateurlaw25_GenPlaces.calls (a0_0 : ByteArray) (a0_1 : ByteArray) (a0_2 : ByteArray) (a1_0 : ByteArray) (a1_1 : ByteArray) (a2_0 : ByteArray) (a2_1 : ByteArray) (a2_2 : ByteArray) (a2_3 : Int) (a2_4 : ByteArray) (r : Bool) (w : World) (h : secateurlaw25_GenPlaces.f a0_0 a0_1 a0_2 a1_0 a1_1 a2_0 a2_1 a2_2 a2_3 a2_4 = some r) (hr : r = true) :
    Calls Try.prog 4 #[.agg #[.string a0_0, .string a0_1, .string a0_2], .agg #[.string a1_0, .string a1_1], .agg #[.string a2_0, .string a2_1, .string a2_2, .int .i64 a2_3, .string a2_4]] w fun e w' => e = .returned (.bool r) ∧ Below w.heap.size w w' := by
  have hu25 := Try.underlying25
  have hu44 := Try.underlying44
  have hu46 := Try.underlying46
  have HRT := Aside0.mk hr
  clear hr
  have HB := Aside0.mk (Below.refl w.heap.size w)
  have H : ((secateurlaw25_live.f).bind fun t126 => (if t126 = true then ((gen_Reg.f a0_0 a0_1 a0_2 a2_3).bind fun bt127 => ((secateurref25_Reg.f a0_0 a0_1 a0_2 a2_3).bind fun bt139 => (if (bt127.1 == bt139.1 && ((bt127.2.1.toList == bt139.2.1.toList && (bt127.2.2.1.toList == bt139.2.2.1.toList && (bt127.2.2.2.1.toList == bt139.2.2.2.1.toList))) && (bt127.2.2.2.2.1 == bt139.2.2.2.2.1 && ((bt127.2.2.2.2.2.1.toList == bt139.2.2.2.2.2.1.toList && (bt127.2.2.2.2.2.2.1.toList == bt139.2.2.2.2.2.2.1.toList)) && (((bt127.2.2.2.2.2.2.2.1.toList == bt139.2.2.2.2.2.2.2.1.toList && (bt127.2.2.2.2.2.2.2.2.1.toList == bt139.2.2.2.2.2.2.2.2.1.toList && (bt127.2.2.2.2.2.2.2.2.2.1.toList == bt139.2.2.2.2.2.2.2.2.2.1.toList))) && (bt127.2.2.2.2.2.2.2.2.2.2.1 == bt139.2.2.2.2.2.2.2.2.2.2.1 && (bt127.2.2.2.2.2.2.2.2.2.2.2.toList == bt139.2.2.2.2.2.2.2.2.2.2.2.toList)))))))) = true then ((gen_Ret.f a0_0 a0_1 a0_2).bind fun bt151 => ((secateurref25_Ret.f a0_0 a0_1 a0_2).bind fun bt163 => (if (bt151.1 == bt163.1 && ((bt151.2.1.toList == bt163.2.1.toList && (bt151.2.2.1.toList == bt163.2.2.1.toList && (bt151.2.2.2.1.toList == bt163.2.2.2.1.toList))) && (bt151.2.2.2.2.1 == bt163.2.2.2.2.1 && ((bt151.2.2.2.2.2.1.toList == bt163.2.2.2.2.2.1.toList && (bt151.2.2.2.2.2.2.1.toList == bt163.2.2.2.2.2.2.1.toList)) && (((bt151.2.2.2.2.2.2.2.1.toList == bt163.2.2.2.2.2.2.2.1.toList && (bt151.2.2.2.2.2.2.2.2.1.toList == bt163.2.2.2.2.2.2.2.2.1.toList && (bt151.2.2.2.2.2.2.2.2.2.1.toList == bt163.2.2.2.2.2.2.2.2.2.1.toList))) && (bt151.2.2.2.2.2.2.2.2.2.2.1 == bt163.2.2.2.2.2.2.2.2.2.2.1 && (bt151.2.2.2.2.2.2.2.2.2.2.2.toList == bt163.2.2.2.2.2.2.2.2.2.2.2.toList)))))))) = true then ((gen_Static.f a1_0 a1_1).bind fun bt175 => ((secateurref25_Static.f a1_0 a1_1).bind fun bt187 => (if (bt175.1 == bt187.1 && ((bt175.2.1.toList == bt187.2.1.toList && (bt175.2.2.1.toList == bt187.2.2.1.toList && (bt175.2.2.2.1.toList == bt187.2.2.2.1.toList))) && (bt175.2.2.2.2.1 == bt187.2.2.2.2.1 && ((bt175.2.2.2.2.2.1.toList == bt187.2.2.2.2.2.1.toList && (bt175.2.2.2.2.2.2.1.toList == bt187.2.2.2.2.2.2.1.toList)) && (((bt175.2.2.2.2.2.2.2.1.toList == bt187.2.2.2.2.2.2.2.1.toList && (bt175.2.2.2.2.2.2.2.2.1.toList == bt187.2.2.2.2.2.2.2.2.1.toList && (bt175.2.2.2.2.2.2.2.2.2.1.toList == bt187.2.2.2.2.2.2.2.2.2.1.toList))) && (bt175.2.2.2.2.2.2.2.2.2.2.1 == bt187.2.2.2.2.2.2.2.2.2.2.1 && (bt175.2.2.2.2.2.2.2.2.2.2.2.toList == bt187.2.2.2.2.2.2.2.2.2.2.2.toList)))))))) = true then ((gen_Field.f a2_0 a2_1 a2_2 a2_3 a2_4 a1_0 a1_1).bind fun bt199 => ((secateurref25_Field.f a2_0 a2_1 a2_2 a2_3 a2_4 a1_0 a1_1).bind fun bt211 => (if (bt199.1 == bt211.1 && ((bt199.2.1.toList == bt211.2.1.toList && (bt199.2.2.1.toList == bt211.2.2.1.toList && (bt199.2.2.2.1.toList == bt211.2.2.2.1.toList))) && (bt199.2.2.2.2.1 == bt211.2.2.2.2.1 && ((bt199.2.2.2.2.2.1.toList == bt211.2.2.2.2.2.1.toList && (bt199.2.2.2.2.2.2.1.toList == bt211.2.2.2.2.2.2.1.toList)) && (((bt199.2.2.2.2.2.2.2.1.toList == bt211.2.2.2.2.2.2.2.1.toList && (bt199.2.2.2.2.2.2.2.2.1.toList == bt211.2.2.2.2.2.2.2.2.1.toList && (bt199.2.2.2.2.2.2.2.2.2.1.toList == bt211.2.2.2.2.2.2.2.2.2.1.toList))) && (bt199.2.2.2.2.2.2.2.2.2.2.1 == bt211.2.2.2.2.2.2.2.2.2.2.1 && (bt199.2.2.2.2.2.2.2.2.2.2.2.toList == bt211.2.2.2.2.2.2.2.2.2.2.2.toList)))))))) = true then ((gen_Element.f a2_0 a2_1 a2_2 a2_3 a2_4).bind fun bt223 => ((secateurref25_Element.f a2_0 a2_1 a2_2 a2_3 a2_4).bind fun bt235 => (some (bt223.1 == bt235.1 && ((bt223.2.1.toList == bt235.2.1.toList && (bt223.2.2.1.toList == bt235.2.2.1.toList && (bt223.2.2.2.1.toList == bt235.2.2.2.1.toList))) && (bt223.2.2.2.2.1 == bt235.2.2.2.2.1 && ((bt223.2.2.2.2.2.1.toList == bt235.2.2.2.2.2.1.toList && (bt223.2.2.2.2.2.2.1.toList == bt235.2.2.2.2.2.2.1.toList)) && (((bt223.2.2.2.2.2.2.2.1.toList == bt235.2.2.2.2.2.2.2.1.toList && (bt223.2.2.2.2.2.2.2.2.1.toList == bt235.2.2.2.2.2.2.2.2.1.toList && (bt223.2.2.2.2.2.2.2.2.2.1.toList == bt235.2.2.2.2.2.2.2.2.2.1.toList))) && (bt223.2.2.2.2.2.2.2.2.2.2.1 == bt235.2.2.2.2.2.2.2.2.2.2.1 && (bt223.2.2.2.2.2.2.2.2.2.2.2.toList == bt235.2.2.2.2.2.2.2.2.2.2.2.toList))))))))))) else (some false)))) else (some false)))) else (some false)))) else (some false)))) else (some false))) = some r := h
  clear h
  replace H := Option.bind_eq_some_iff.mp H
  obtain ⟨t126, A40, H⟩ := H
  replace H : (if t126 = true then ((gen_Reg.f a0_0 a0_1 a0_2 a2_3).bind fun bt127 => ((secateurref25_Reg.f a0_0 a0_1 a0_2 a2_3).bind fun bt139 => (if (bt127.1 == bt139.1 && ((bt127.2.1.toList == bt139.2.1.toList && (bt127.2.2.1.toList == bt139.2.2.1.toList && (bt127.2.2.2.1.toList == bt139.2.2.2.1.toList))) && (bt127.2.2.2.2.1 == bt139.2.2.2.2.1 && ((bt127.2.2.2.2.2.1.toList == bt139.2.2.2.2.2.1.toList && (bt127.2.2.2.2.2.2.1.toList == bt139.2.2.2.2.2.2.1.toList)) && (((bt127.2.2.2.2.2.2.2.1.toList == bt139.2.2.2.2.2.2.2.1.toList && (bt127.2.2.2.2.2.2.2.2.1.toList == bt139.2.2.2.2.2.2.2.2.1.toList && (bt127.2.2.2.2.2.2.2.2.2.1.toList == bt139.2.2.2.2.2.2.2.2.2.1.toList))) && (bt127.2.2.2.2.2.2.2.2.2.2.1 == bt139.2.2.2.2.2.2.2.2.2.2.1 && (bt127.2.2.2.2.2.2.2.2.2.2.2.toList == bt139.2.2.2.2.2.2.2.2.2.2.2.toList)))))))) = true then ((gen_Ret.f a0_0 a0_1 a0_2).bind fun bt151 => ((secateurref25_Ret.f a0_0 a0_1 a0_2).bind fun bt163 => (if (bt151.1 == bt163.1 && ((bt151.2.1.toList == bt163.2.1.toList && (bt151.2.2.1.toList == bt163.2.2.1.toList && (bt151.2.2.2.1.toList == bt163.2.2.2.1.toList))) && (bt151.2.2.2.2.1 == bt163.2.2.2.2.1 && ((bt151.2.2.2.2.2.1.toList == bt163.2.2.2.2.2.1.toList && (bt151.2.2.2.2.2.2.1.toList == bt163.2.2.2.2.2.2.1.toList)) && (((bt151.2.2.2.2.2.2.2.1.toList == bt163.2.2.2.2.2.2.2.1.toList && (bt151.2.2.2.2.2.2.2.2.1.toList == bt163.2.2.2.2.2.2.2.2.1.toList && (bt151.2.2.2.2.2.2.2.2.2.1.toList == bt163.2.2.2.2.2.2.2.2.2.1.toList))) && (bt151.2.2.2.2.2.2.2.2.2.2.1 == bt163.2.2.2.2.2.2.2.2.2.2.1 && (bt151.2.2.2.2.2.2.2.2.2.2.2.toList == bt163.2.2.2.2.2.2.2.2.2.2.2.toList)))))))) = true then ((gen_Static.f a1_0 a1_1).bind fun bt175 => ((secateurref25_Static.f a1_0 a1_1).bind fun bt187 => (if (bt175.1 == bt187.1 && ((bt175.2.1.toList == bt187.2.1.toList && (bt175.2.2.1.toList == bt187.2.2.1.toList && (bt175.2.2.2.1.toList == bt187.2.2.2.1.toList))) && (bt175.2.2.2.2.1 == bt187.2.2.2.2.1 && ((bt175.2.2.2.2.2.1.toList == bt187.2.2.2.2.2.1.toList && (bt175.2.2.2.2.2.2.1.toList == bt187.2.2.2.2.2.2.1.toList)) && (((bt175.2.2.2.2.2.2.2.1.toList == bt187.2.2.2.2.2.2.2.1.toList && (bt175.2.2.2.2.2.2.2.2.1.toList == bt187.2.2.2.2.2.2.2.2.1.toList && (bt175.2.2.2.2.2.2.2.2.2.1.toList == bt187.2.2.2.2.2.2.2.2.2.1.toList))) && (bt175.2.2.2.2.2.2.2.2.2.2.1 == bt187.2.2.2.2.2.2.2.2.2.2.1 && (bt175.2.2.2.2.2.2.2.2.2.2.2.toList == bt187.2.2.2.2.2.2.2.2.2.2.2.toList)))))))) = true then ((gen_Field.f a2_0 a2_1 a2_2 a2_3 a2_4 a1_0 a1_1).bind fun bt199 => ((secateurref25_Field.f a2_0 a2_1 a2_2 a2_3 a2_4 a1_0 a1_1).bind fun bt211 => (if (bt199.1 == bt211.1 && ((bt199.2.1.toList == bt211.2.1.toList && (bt199.2.2.1.toList == bt211.2.2.1.toList && (bt199.2.2.2.1.toList == bt211.2.2.2.1.toList))) && (bt199.2.2.2.2.1 == bt211.2.2.2.2.1 && ((bt199.2.2.2.2.2.1.toList == bt211.2.2.2.2.2.1.toList && (bt199.2.2.2.2.2.2.1.toList == bt211.2.2.2.2.2.2.1.toList)) && (((bt199.2.2.2.2.2.2.2.1.toList == bt211.2.2.2.2.2.2.2.1.toList && (bt199.2.2.2.2.2.2.2.2.1.toList == bt211.2.2.2.2.2.2.2.2.1.toList && (bt199.2.2.2.2.2.2.2.2.2.1.toList == bt211.2.2.2.2.2.2.2.2.2.1.toList))) && (bt199.2.2.2.2.2.2.2.2.2.2.1 == bt211.2.2.2.2.2.2.2.2.2.2.1 && (bt199.2.2.2.2.2.2.2.2.2.2.2.toList == bt211.2.2.2.2.2.2.2.2.2.2.2.toList)))))))) = true then ((gen_Element.f a2_0 a2_1 a2_2 a2_3 a2_4).bind fun bt223 => ((secateurref25_Element.f a2_0 a2_1 a2_2 a2_3 a2_4).bind fun bt235 => (some (bt223.1 == bt235.1 && ((bt223.2.1.toList == bt235.2.1.toList && (bt223.2.2.1.toList == bt235.2.2.1.toList && (bt223.2.2.2.1.toList == bt235.2.2.2.1.toList))) && (bt223.2.2.2.2.1 == bt235.2.2.2.2.1 && ((bt223.2.2.2.2.2.1.toList == bt235.2.2.2.2.2.1.toList && (bt223.2.2.2.2.2.2.1.toList == bt235.2.2.2.2.2.2.1.toList)) && (((bt223.2.2.2.2.2.2.2.1.toList == bt235.2.2.2.2.2.2.2.1.toList && (bt223.2.2.2.2.2.2.2.2.1.toList == bt235.2.2.2.2.2.2.2.2.1.toList && (bt223.2.2.2.2.2.2.2.2.2.1.toList == bt235.2.2.2.2.2.2.2.2.2.1.toList))) && (bt223.2.2.2.2.2.2.2.2.2.2.1 == bt235.2.2.2.2.2.2.2.2.2.2.1 && (bt223.2.2.2.2.2.2.2.2.2.2.2.toList == bt235.2.2.2.2.2.2.2.2.2.2.2.toList))))))))))) else (some false)))) else (some false)))) else (some false)))) else (some false)))) else (some false)) = some r := H
  have A4 := Aside0.mk A40
  clear A40
  by_cases c5 : t126 = true
  · subst c5
    have H1 : ((gen_Reg.f a0_0 a0_1 a0_2 a2_3).bind fun bt127 => ((secateurref25_Reg.f a0_0 a0_1 a0_2 a2_3).bind fun bt139 => (if (bt127.1 == bt139.1 && ((bt127.2.1.toList == bt139.2.1.toList && (bt127.2.2.1.toList == bt139.2.2.1.toList && (bt127.2.2.2.1.toList == bt139.2.2.2.1.toList))) && (bt127.2.2.2.2.1 == bt139.2.2.2.2.1 && ((bt127.2.2.2.2.2.1.toList == bt139.2.2.2.2.2.1.toList && (bt127.2.2.2.2.2.2.1.toList == bt139.2.2.2.2.2.2.1.toList)) && (((bt127.2.2.2.2.2.2.2.1.toList == bt139.2.2.2.2.2.2.2.1.toList && (bt127.2.2.2.2.2.2.2.2.1.toList == bt139.2.2.2.2.2.2.2.2.1.toList && (bt127.2.2.2.2.2.2.2.2.2.1.toList == bt139.2.2.2.2.2.2.2.2.2.1.toList))) && (bt127.2.2.2.2.2.2.2.2.2.2.1 == bt139.2.2.2.2.2.2.2.2.2.2.1 && (bt127.2.2.2.2.2.2.2.2.2.2.2.toList == bt139.2.2.2.2.2.2.2.2.2.2.2.toList)))))))) = true then ((gen_Ret.f a0_0 a0_1 a0_2).bind fun bt151 => ((secateurref25_Ret.f a0_0 a0_1 a0_2).bind fun bt163 => (if (bt151.1 == bt163.1 && ((bt151.2.1.toList == bt163.2.1.toList && (bt151.2.2.1.toList == bt163.2.2.1.toList && (bt151.2.2.2.1.toList == bt163.2.2.2.1.toList))) && (bt151.2.2.2.2.1 == bt163.2.2.2.2.1 && ((bt151.2.2.2.2.2.1.toList == bt163.2.2.2.2.2.1.toList && (bt151.2.2.2.2.2.2.1.toList == bt163.2.2.2.2.2.2.1.toList)) && (((bt151.2.2.2.2.2.2.2.1.toList == bt163.2.2.2.2.2.2.2.1.toList && (bt151.2.2.2.2.2.2.2.2.1.toList == bt163.2.2.2.2.2.2.2.2.1.toList && (bt151.2.2.2.2.2.2.2.2.2.1.toList == bt163.2.2.2.2.2.2.2.2.2.1.toList))) && (bt151.2.2.2.2.2.2.2.2.2.2.1 == bt163.2.2.2.2.2.2.2.2.2.2.1 && (bt151.2.2.2.2.2.2.2.2.2.2.2.toList == bt163.2.2.2.2.2.2.2.2.2.2.2.toList)))))))) = true then ((gen_Static.f a1_0 a1_1).bind fun bt175 => ((secateurref25_Static.f a1_0 a1_1).bind fun bt187 => (if (bt175.1 == bt187.1 && ((bt175.2.1.toList == bt187.2.1.toList && (bt175.2.2.1.toList == bt187.2.2.1.toList && (bt175.2.2.2.1.toList == bt187.2.2.2.1.toList))) && (bt175.2.2.2.2.1 == bt187.2.2.2.2.1 && ((bt175.2.2.2.2.2.1.toList == bt187.2.2.2.2.2.1.toList && (bt175.2.2.2.2.2.2.1.toList == bt187.2.2.2.2.2.2.1.toList)) && (((bt175.2.2.2.2.2.2.2.1.toList == bt187.2.2.2.2.2.2.2.1.toList && (bt175.2.2.2.2.2.2.2.2.1.toList == bt187.2.2.2.2.2.2.2.2.1.toList && (bt175.2.2.2.2.2.2.2.2.2.1.toList == bt187.2.2.2.2.2.2.2.2.2.1.toList))) && (bt175.2.2.2.2.2.2.2.2.2.2.1 == bt187.2.2.2.2.2.2.2.2.2.2.1 && (bt175.2.2.2.2.2.2.2.2.2.2.2.toList == bt187.2.2.2.2.2.2.2.2.2.2.2.toList)))))))) = true then ((gen_Field.f a2_0 a2_1 a2_2 a2_3 a2_4 a1_0 a1_1).bind fun bt199 => ((secateurref25_Field.f a2_0 a2_1 a2_2 a2_3 a2_4 a1_0 a1_1).bind fun bt211 => (if (bt199.1 == bt211.1 && ((bt199.2.1.toList == bt211.2.1.toList && (bt199.2.2.1.toList == bt211.2.2.1.toList && (bt199.2.2.2.1.toList == bt211.2.2.2.1.toList))) && (bt199.2.2.2.2.1 == bt211.2.2.2.2.1 && ((bt199.2.2.2.2.2.1.toList == bt211.2.2.2.2.2.1.toList && (bt199.2.2.2.2.2.2.1.toList == bt211.2.2.2.2.2.2.1.toList)) && (((bt199.2.2.2.2.2.2.2.1.toList == bt211.2.2.2.2.2.2.2.1.toList && (bt199.2.2.2.2.2.2.2.2.1.toList == bt211.2.2.2.2.2.2.2.2.1.toList && (bt199.2.2.2.2.2.2.2.2.2.1.toList == bt211.2.2.2.2.2.2.2.2.2.1.toList))) && (bt199.2.2.2.2.2.2.2.2.2.2.1 == bt211.2.2.2.2.2.2.2.2.2.2.1 && (bt199.2.2.2.2.2.2.2.2.2.2.2.toList == bt211.2.2.2.2.2.2.2.2.2.2.2.toList)))))))) = true then ((gen_Element.f a2_0 a2_1 a2_2 a2_3 a2_4).bind fun bt223 => ((secateurref25_Element.f a2_0 a2_1 a2_2 a2_3 a2_4).bind fun bt235 => (some (bt223.1 == bt235.1 && ((bt223.2.1.toList == bt235.2.1.toList && (bt223.2.2.1.toList == bt235.2.2.1.toList && (bt223.2.2.2.1.toList == bt235.2.2.2.1.toList))) && (bt223.2.2.2.2.1 == bt235.2.2.2.2.1 && ((bt223.2.2.2.2.2.1.toList == bt235.2.2.2.2.2.1.toList && (bt223.2.2.2.2.2.2.1.toList == bt235.2.2.2.2.2.2.1.toList)) && (((bt223.2.2.2.2.2.2.2.1.toList == bt235.2.2.2.2.2.2.2.1.toList && (bt223.2.2.2.2.2.2.2.2.1.toList == bt235.2.2.2.2.2.2.2.2.1.toList && (bt223.2.2.2.2.2.2.2.2.2.1.toList == bt235.2.2.2.2.2.2.2.2.2.1.toList))) && (bt223.2.2.2.2.2.2.2.2.2.2.1 == bt235.2.2.2.2.2.2.2.2.2.2.1 && (bt223.2.2.2.2.2.2.2.2.2.2.2.toList == bt235.2.2.2.2.2.2.2.2.2.2.2.toList))))))))))) else (some false)))) else (some false)))) else (some false)))) else (some false)))) = some r := by rw [if_pos rfl] at H; exact H
    clear H
    have H := H1
    clear H1
    replace H := Option.bind_eq_some_iff.mp H
    obtain ⟨⟨t127, t128, t129, t130, t131, t132, t133, t134, t135, t136, t137, t138⟩, A60, H⟩ := H
    replace H : ((secateurref25_Reg.f a0_0 a0_1 a0_2 a2_3).bind fun bt139 => (if (t127 == bt139.1 && ((t128.toList == bt139.2.1.toList && (t129.toList == bt139.2.2.1.toList && (t130.toList == bt139.2.2.2.1.toList))) && (t131 == bt139.2.2.2.2.1 && ((t132.toList == bt139.2.2.2.2.2.1.toList && (t133.toList == bt139.2.2.2.2.2.2.1.toList)) && (((t134.toList == bt139.2.2.2.2.2.2.2.1.toList && (t135.toList == bt139.2.2.2.2.2.2.2.2.1.toList && (t136.toList == bt139.2.2.2.2.2.2.2.2.2.1.toList))) && (t137 == bt139.2.2.2.2.2.2.2.2.2.2.1 && (t138.toList == bt139.2.2.2.2.2.2.2.2.2.2.2.toList)))))))) = true then ((gen_Ret.f a0_0 a0_1 a0_2).bind fun bt151 => ((secateurref25_Ret.f a0_0 a0_1 a0_2).bind fun bt163 => (if (bt151.1 == bt163.1 && ((bt151.2.1.toList == bt163.2.1.toList && (bt151.2.2.1.toList == bt163.2.2.1.toList && (bt151.2.2.2.1.toList == bt163.2.2.2.1.toList))) && (bt151.2.2.2.2.1 == bt163.2.2.2.2.1 && ((bt151.2.2.2.2.2.1.toList == bt163.2.2.2.2.2.1.toList && (bt151.2.2.2.2.2.2.1.toList == bt163.2.2.2.2.2.2.1.toList)) && (((bt151.2.2.2.2.2.2.2.1.toList == bt163.2.2.2.2.2.2.2.1.toList && (bt151.2.2.2.2.2.2.2.2.1.toList == bt163.2.2.2.2.2.2.2.2.1.toList && (bt151.2.2.2.2.2.2.2.2.2.1.toList == bt163.2.2.2.2.2.2.2.2.2.1.toList))) && (bt151.2.2.2.2.2.2.2.2.2.2.1 == bt163.2.2.2.2.2.2.2.2.2.2.1 && (bt151.2.2.2.2.2.2.2.2.2.2.2.toList == bt163.2.2.2.2.2.2.2.2.2.2.2.toList)))))))) = true then ((gen_Static.f a1_0 a1_1).bind fun bt175 => ((secateurref25_Static.f a1_0 a1_1).bind fun bt187 => (if (bt175.1 == bt187.1 && ((bt175.2.1.toList == bt187.2.1.toList && (bt175.2.2.1.toList == bt187.2.2.1.toList && (bt175.2.2.2.1.toList == bt187.2.2.2.1.toList))) && (bt175.2.2.2.2.1 == bt187.2.2.2.2.1 && ((bt175.2.2.2.2.2.1.toList == bt187.2.2.2.2.2.1.toList && (bt175.2.2.2.2.2.2.1.toList == bt187.2.2.2.2.2.2.1.toList)) && (((bt175.2.2.2.2.2.2.2.1.toList == bt187.2.2.2.2.2.2.2.1.toList && (bt175.2.2.2.2.2.2.2.2.1.toList == bt187.2.2.2.2.2.2.2.2.1.toList && (bt175.2.2.2.2.2.2.2.2.2.1.toList == bt187.2.2.2.2.2.2.2.2.2.1.toList))) && (bt175.2.2.2.2.2.2.2.2.2.2.1 == bt187.2.2.2.2.2.2.2.2.2.2.1 && (bt175.2.2.2.2.2.2.2.2.2.2.2.toList == bt187.2.2.2.2.2.2.2.2.2.2.2.toList)))))))) = true then ((gen_Field.f a2_0 a2_1 a2_2 a2_3 a2_4 a1_0 a1_1).bind fun bt199 => ((secateurref25_Field.f a2_0 a2_1 a2_2 a2_3 a2_4 a1_0 a1_1).bind fun bt211 => (if (bt199.1 == bt211.1 && ((bt199.2.1.toList == bt211.2.1.toList && (bt199.2.2.1.toList == bt211.2.2.1.toList && (bt199.2.2.2.1.toList == bt211.2.2.2.1.toList))) && (bt199.2.2.2.2.1 == bt211.2.2.2.2.1 && ((bt199.2.2.2.2.2.1.toList == bt211.2.2.2.2.2.1.toList && (bt199.2.2.2.2.2.2.1.toList == bt211.2.2.2.2.2.2.1.toList)) && (((bt199.2.2.2.2.2.2.2.1.toList == bt211.2.2.2.2.2.2.2.1.toList && (bt199.2.2.2.2.2.2.2.2.1.toList == bt211.2.2.2.2.2.2.2.2.1.toList && (bt199.2.2.2.2.2.2.2.2.2.1.toList == bt211.2.2.2.2.2.2.2.2.2.1.toList))) && (bt199.2.2.2.2.2.2.2.2.2.2.1 == bt211.2.2.2.2.2.2.2.2.2.2.1 && (bt199.2.2.2.2.2.2.2.2.2.2.2.toList == bt211.2.2.2.2.2.2.2.2.2.2.2.toList)))))))) = true then ((gen_Element.f a2_0 a2_1 a2_2 a2_3 a2_4).bind fun bt223 => ((secateurref25_Element.f a2_0 a2_1 a2_2 a2_3 a2_4).bind fun bt235 => (some (bt223.1 == bt235.1 && ((bt223.2.1.toList == bt235.2.1.toList && (bt223.2.2.1.toList == bt235.2.2.1.toList && (bt223.2.2.2.1.toList == bt235.2.2.2.1.toList))) && (bt223.2.2.2.2.1 == bt235.2.2.2.2.1 && ((bt223.2.2.2.2.2.1.toList == bt235.2.2.2.2.2.1.toList && (bt223.2.2.2.2.2.2.1.toList == bt235.2.2.2.2.2.2.1.toList)) && (((bt223.2.2.2.2.2.2.2.1.toList == bt235.2.2.2.2.2.2.2.1.toList && (bt223.2.2.2.2.2.2.2.2.1.toList == bt235.2.2.2.2.2.2.2.2.1.toList && (bt223.2.2.2.2.2.2.2.2.2.1.toList == bt235.2.2.2.2.2.2.2.2.2.1.toList))) && (bt223.2.2.2.2.2.2.2.2.2.2.1 == bt235.2.2.2.2.2.2.2.2.2.2.1 && (bt223.2.2.2.2.2.2.2.2.2.2.2.toList == bt235.2.2.2.2.2.2.2.2.2.2.2.toList))))))))))) else (some false)))) else (some false)))) else (some false)))) else (some false))) = some r := H
    have A6 := Aside0.mk A60
    clear A60
    replace H := Option.bind_eq_some_iff.mp H
    obtain ⟨⟨t139, t140, t141, t142, t143, t144, t145, t146, t147, t148, t149, t150⟩, A70, H⟩ := H
    replace H : (if (t127 == t139 && ((t128.toList == t140.toList && (t129.toList == t141.toList && (t130.toList == t142.toList))) && (t131 == t143 && ((t132.toList == t144.toList && (t133.toList == t145.toList)) && (((t134.toList == t146.toList && (t135.toList == t147.toList && (t136.toList == t148.toList))) && (t137 == t149 && (t138.toList == t150.toList)))))))) = true then ((gen_Ret.f a0_0 a0_1 a0_2).bind fun bt151 => ((secateurref25_Ret.f a0_0 a0_1 a0_2).bind fun bt163 => (if (bt151.1 == bt163.1 && ((bt151.2.1.toList == bt163.2.1.toList && (bt151.2.2.1.toList == bt163.2.2.1.toList && (bt151.2.2.2.1.toList == bt163.2.2.2.1.toList))) && (bt151.2.2.2.2.1 == bt163.2.2.2.2.1 && ((bt151.2.2.2.2.2.1.toList == bt163.2.2.2.2.2.1.toList && (bt151.2.2.2.2.2.2.1.toList == bt163.2.2.2.2.2.2.1.toList)) && (((bt151.2.2.2.2.2.2.2.1.toList == bt163.2.2.2.2.2.2.2.1.toList && (bt151.2.2.2.2.2.2.2.2.1.toList == bt163.2.2.2.2.2.2.2.2.1.toList && (bt151.2.2.2.2.2.2.2.2.2.1.toList == bt163.2.2.2.2.2.2.2.2.2.1.toList))) && (bt151.2.2.2.2.2.2.2.2.2.2.1 == bt163.2.2.2.2.2.2.2.2.2.2.1 && (bt151.2.2.2.2.2.2.2.2.2.2.2.toList == bt163.2.2.2.2.2.2.2.2.2.2.2.toList)))))))) = true then ((gen_Static.f a1_0 a1_1).bind fun bt175 => ((secateurref25_Static.f a1_0 a1_1).bind fun bt187 => (if (bt175.1 == bt187.1 && ((bt175.2.1.toList == bt187.2.1.toList && (bt175.2.2.1.toList == bt187.2.2.1.toList && (bt175.2.2.2.1.toList == bt187.2.2.2.1.toList))) && (bt175.2.2.2.2.1 == bt187.2.2.2.2.1 && ((bt175.2.2.2.2.2.1.toList == bt187.2.2.2.2.2.1.toList && (bt175.2.2.2.2.2.2.1.toList == bt187.2.2.2.2.2.2.1.toList)) && (((bt175.2.2.2.2.2.2.2.1.toList == bt187.2.2.2.2.2.2.2.1.toList && (bt175.2.2.2.2.2.2.2.2.1.toList == bt187.2.2.2.2.2.2.2.2.1.toList && (bt175.2.2.2.2.2.2.2.2.2.1.toList == bt187.2.2.2.2.2.2.2.2.2.1.toList))) && (bt175.2.2.2.2.2.2.2.2.2.2.1 == bt187.2.2.2.2.2.2.2.2.2.2.1 && (bt175.2.2.2.2.2.2.2.2.2.2.2.toList == bt187.2.2.2.2.2.2.2.2.2.2.2.toList)))))))) = true then ((gen_Field.f a2_0 a2_1 a2_2 a2_3 a2_4 a1_0 a1_1).bind fun bt199 => ((secateurref25_Field.f a2_0 a2_1 a2_2 a2_3 a2_4 a1_0 a1_1).bind fun bt211 => (if (bt199.1 == bt211.1 && ((bt199.2.1.toList == bt211.2.1.toList && (bt199.2.2.1.toList == bt211.2.2.1.toList && (bt199.2.2.2.1.toList == bt211.2.2.2.1.toList))) && (bt199.2.2.2.2.1 == bt211.2.2.2.2.1 && ((bt199.2.2.2.2.2.1.toList == bt211.2.2.2.2.2.1.toList && (bt199.2.2.2.2.2.2.1.toList == bt211.2.2.2.2.2.2.1.toList)) && (((bt199.2.2.2.2.2.2.2.1.toList == bt211.2.2.2.2.2.2.2.1.toList && (bt199.2.2.2.2.2.2.2.2.1.toList == bt211.2.2.2.2.2.2.2.2.1.toList && (bt199.2.2.2.2.2.2.2.2.2.1.toList == bt211.2.2.2.2.2.2.2.2.2.1.toList))) && (bt199.2.2.2.2.2.2.2.2.2.2.1 == bt211.2.2.2.2.2.2.2.2.2.2.1 && (bt199.2.2.2.2.2.2.2.2.2.2.2.toList == bt211.2.2.2.2.2.2.2.2.2.2.2.toList)))))))) = true then ((gen_Element.f a2_0 a2_1 a2_2 a2_3 a2_4).bind fun bt223 => ((secateurref25_Element.f a2_0 a2_1 a2_2 a2_3 a2_4).bind fun bt235 => (some (bt223.1 == bt235.1 && ((bt223.2.1.toList == bt235.2.1.toList && (bt223.2.2.1.toList == bt235.2.2.1.toList && (bt223.2.2.2.1.toList == bt235.2.2.2.1.toList))) && (bt223.2.2.2.2.1 == bt235.2.2.2.2.1 && ((bt223.2.2.2.2.2.1.toList == bt235.2.2.2.2.2.1.toList && (bt223.2.2.2.2.2.2.1.toList == bt235.2.2.2.2.2.2.1.toList)) && (((bt223.2.2.2.2.2.2.2.1.toList == bt235.2.2.2.2.2.2.2.1.toList && (bt223.2.2.2.2.2.2.2.2.1.toList == bt235.2.2.2.2.2.2.2.2.1.toList && (bt223.2.2.2.2.2.2.2.2.2.1.toList == bt235.2.2.2.2.2.2.2.2.2.1.toList))) && (bt223.2.2.2.2.2.2.2.2.2.2.1 == bt235.2.2.2.2.2.2.2.2.2.2.1 && (bt223.2.2.2.2.2.2.2.2.2.2.2.toList == bt235.2.2.2.2.2.2.2.2.2.2.2.toList))))))))))) else (some false)))) else (some false)))) else (some false)))) else (some false)) = some r := H
    have A7 := Aside0.mk A70
    clear A70
    by_cases c8 : (t127 == t139 && ((t128.toList == t140.toList && (t129.toList == t141.toList && (t130.toList == t142.toList))) && (t131 == t143 && ((t132.toList == t144.toList && (t133.toList == t145.toList)) && (((t134.toList == t146.toList && (t135.toList == t147.toList && (t136.toList == t148.toList))) && (t137 == t149 && (t138.toList == t150.toList)))))))) = true
    · rw [if_pos c8] at H
      have c8b0 : (t127 == t139 && ((t128.toList == t140.toList && (t129.toList == t141.toList && (t130.toList == t142.toList))) && (t131 == t143 && ((t132.toList == t144.toList && (t133.toList == t145.toList)) && (((t134.toList == t146.toList && (t135.toList == t147.toList && (t136.toList == t148.toList))) && (t137 == t149 && (t138.toList == t150.toList)))))))) = true := c8
      (try (have c8b1 : decide (t127 = t139 && ((t128.toList == t140.toList && (t129.toList == t141.toList && (t130.toList == t142.toList))) && (t131 == t143 && ((t132.toList == t144.toList && (t133.toList == t145.toList)) && (((t134.toList == t146.toList && (t135.toList == t147.toList && (t136.toList == t148.toList))) && (t137 == t149 && (t138.toList == t150.toList)))))))) = true := by simpa using c8))
      (try (have c8b2 : (t127 == t139 && ((t128.toList == t140.toList && (t129.toList == t141.toList && (t130.toList == t142.toList))) && (t131 == t143 && ((t132.toList == t144.toList && (t133.toList == t145.toList)) && (((t134.toList == t146.toList && (t135.toList == t147.toList && (t136.toList == t148.toList))) && (t137 == t149 && (t138.toList == t150.toList)))))))) = true := by simpa using c8))
      clear c8
      replace H := Option.bind_eq_some_iff.mp H
      obtain ⟨⟨t151, t152, t153, t154, t155, t156, t157, t158, t159, t160, t161, t162⟩, A90, H⟩ := H
      replace H : ((secateurref25_Ret.f a0_0 a0_1 a0_2).bind fun bt163 => (if (t151 == bt163.1 && ((t152.toList == bt163.2.1.toList && (t153.toList == bt163.2.2.1.toList && (t154.toList == bt163.2.2.2.1.toList))) && (t155 == bt163.2.2.2.2.1 && ((t156.toList == bt163.2.2.2.2.2.1.toList && (t157.toList == bt163.2.2.2.2.2.2.1.toList)) && (((t158.toList == bt163.2.2.2.2.2.2.2.1.toList && (t159.toList == bt163.2.2.2.2.2.2.2.2.1.toList && (t160.toList == bt163.2.2.2.2.2.2.2.2.2.1.toList))) && (t161 == bt163.2.2.2.2.2.2.2.2.2.2.1 && (t162.toList == bt163.2.2.2.2.2.2.2.2.2.2.2.toList)))))))) = true then ((gen_Static.f a1_0 a1_1).bind fun bt175 => ((secateurref25_Static.f a1_0 a1_1).bind fun bt187 => (if (bt175.1 == bt187.1 && ((bt175.2.1.toList == bt187.2.1.toList && (bt175.2.2.1.toList == bt187.2.2.1.toList && (bt175.2.2.2.1.toList == bt187.2.2.2.1.toList))) && (bt175.2.2.2.2.1 == bt187.2.2.2.2.1 && ((bt175.2.2.2.2.2.1.toList == bt187.2.2.2.2.2.1.toList && (bt175.2.2.2.2.2.2.1.toList == bt187.2.2.2.2.2.2.1.toList)) && (((bt175.2.2.2.2.2.2.2.1.toList == bt187.2.2.2.2.2.2.2.1.toList && (bt175.2.2.2.2.2.2.2.2.1.toList == bt187.2.2.2.2.2.2.2.2.1.toList && (bt175.2.2.2.2.2.2.2.2.2.1.toList == bt187.2.2.2.2.2.2.2.2.2.1.toList))) && (bt175.2.2.2.2.2.2.2.2.2.2.1 == bt187.2.2.2.2.2.2.2.2.2.2.1 && (bt175.2.2.2.2.2.2.2.2.2.2.2.toList == bt187.2.2.2.2.2.2.2.2.2.2.2.toList)))))))) = true then ((gen_Field.f a2_0 a2_1 a2_2 a2_3 a2_4 a1_0 a1_1).bind fun bt199 => ((secateurref25_Field.f a2_0 a2_1 a2_2 a2_3 a2_4 a1_0 a1_1).bind fun bt211 => (if (bt199.1 == bt211.1 && ((bt199.2.1.toList == bt211.2.1.toList && (bt199.2.2.1.toList == bt211.2.2.1.toList && (bt199.2.2.2.1.toList == bt211.2.2.2.1.toList))) && (bt199.2.2.2.2.1 == bt211.2.2.2.2.1 && ((bt199.2.2.2.2.2.1.toList == bt211.2.2.2.2.2.1.toList && (bt199.2.2.2.2.2.2.1.toList == bt211.2.2.2.2.2.2.1.toList)) && (((bt199.2.2.2.2.2.2.2.1.toList == bt211.2.2.2.2.2.2.2.1.toList && (bt199.2.2.2.2.2.2.2.2.1.toList == bt211.2.2.2.2.2.2.2.2.1.toList && (bt199.2.2.2.2.2.2.2.2.2.1.toList == bt211.2.2.2.2.2.2.2.2.2.1.toList))) && (bt199.2.2.2.2.2.2.2.2.2.2.1 == bt211.2.2.2.2.2.2.2.2.2.2.1 && (bt199.2.2.2.2.2.2.2.2.2.2.2.toList == bt211.2.2.2.2.2.2.2.2.2.2.2.toList)))))))) = true then ((gen_Element.f a2_0 a2_1 a2_2 a2_3 a2_4).bind fun bt223 => ((secateurref25_Element.f a2_0 a2_1 a2_2 a2_3 a2_4).bind fun bt235 => (some (bt223.1 == bt235.1 && ((bt223.2.1.toList == bt235.2.1.toList && (bt223.2.2.1.toList == bt235.2.2.1.toList && (bt223.2.2.2.1.toList == bt235.2.2.2.1.toList))) && (bt223.2.2.2.2.1 == bt235.2.2.2.2.1 && ((bt223.2.2.2.2.2.1.toList == bt235.2.2.2.2.2.1.toList && (bt223.2.2.2.2.2.2.1.toList == bt235.2.2.2.2.2.2.1.toList)) && (((bt223.2.2.2.2.2.2.2.1.toList == bt235.2.2.2.2.2.2.2.1.toList && (bt223.2.2.2.2.2.2.2.2.1.toList == bt235.2.2.2.2.2.2.2.2.1.toList && (bt223.2.2.2.2.2.2.2.2.2.1.toList == bt235.2.2.2.2.2.2.2.2.2.1.toList))) && (bt223.2.2.2.2.2.2.2.2.2.2.1 == bt235.2.2.2.2.2.2.2.2.2.2.1 && (bt223.2.2.2.2.2.2.2.2.2.2.2.toList == bt235.2.2.2.2.2.2.2.2.2.2.2.toList))))))))))) else (some false)))) else (some false)))) else (some false))) = some r := H
      have A9 := Aside0.mk A90
      clear A90
      replace H := Option.bind_eq_some_iff.mp H
      obtain ⟨⟨t163, t164, t165, t166, t167, t168, t169, t170, t171, t172, t173, t174⟩, A100, H⟩ := H
      replace H : (if (t151 == t163 && ((t152.toList == t164.toList && (t153.toList == t165.toList && (t154.toList == t166.toList))) && (t155 == t167 && ((t156.toList == t168.toList && (t157.toList == t169.toList)) && (((t158.toList == t170.toList && (t159.toList == t171.toList && (t160.toList == t172.toList))) && (t161 == t173 && (t162.toList == t174.toList)))))))) = true then ((gen_Static.f a1_0 a1_1).bind fun bt175 => ((secateurref25_Static.f a1_0 a1_1).bind fun bt187 => (if (bt175.1 == bt187.1 && ((bt175.2.1.toList == bt187.2.1.toList && (bt175.2.2.1.toList == bt187.2.2.1.toList && (bt175.2.2.2.1.toList == bt187.2.2.2.1.toList))) && (bt175.2.2.2.2.1 == bt187.2.2.2.2.1 && ((bt175.2.2.2.2.2.1.toList == bt187.2.2.2.2.2.1.toList && (bt175.2.2.2.2.2.2.1.toList == bt187.2.2.2.2.2.2.1.toList)) && (((bt175.2.2.2.2.2.2.2.1.toList == bt187.2.2.2.2.2.2.2.1.toList && (bt175.2.2.2.2.2.2.2.2.1.toList == bt187.2.2.2.2.2.2.2.2.1.toList && (bt175.2.2.2.2.2.2.2.2.2.1.toList == bt187.2.2.2.2.2.2.2.2.2.1.toList))) && (bt175.2.2.2.2.2.2.2.2.2.2.1 == bt187.2.2.2.2.2.2.2.2.2.2.1 && (bt175.2.2.2.2.2.2.2.2.2.2.2.toList == bt187.2.2.2.2.2.2.2.2.2.2.2.toList)))))))) = true then ((gen_Field.f a2_0 a2_1 a2_2 a2_3 a2_4 a1_0 a1_1).bind fun bt199 => ((secateurref25_Field.f a2_0 a2_1 a2_2 a2_3 a2_4 a1_0 a1_1).bind fun bt211 => (if (bt199.1 == bt211.1 && ((bt199.2.1.toList == bt211.2.1.toList && (bt199.2.2.1.toList == bt211.2.2.1.toList && (bt199.2.2.2.1.toList == bt211.2.2.2.1.toList))) && (bt199.2.2.2.2.1 == bt211.2.2.2.2.1 && ((bt199.2.2.2.2.2.1.toList == bt211.2.2.2.2.2.1.toList && (bt199.2.2.2.2.2.2.1.toList == bt211.2.2.2.2.2.2.1.toList)) && (((bt199.2.2.2.2.2.2.2.1.toList == bt211.2.2.2.2.2.2.2.1.toList && (bt199.2.2.2.2.2.2.2.2.1.toList == bt211.2.2.2.2.2.2.2.2.1.toList && (bt199.2.2.2.2.2.2.2.2.2.1.toList == bt211.2.2.2.2.2.2.2.2.2.1.toList))) && (bt199.2.2.2.2.2.2.2.2.2.2.1 == bt211.2.2.2.2.2.2.2.2.2.2.1 && (bt199.2.2.2.2.2.2.2.2.2.2.2.toList == bt211.2.2.2.2.2.2.2.2.2.2.2.toList)))))))) = true then ((gen_Element.f a2_0 a2_1 a2_2 a2_3 a2_4).bind fun bt223 => ((secateurref25_Element.f a2_0 a2_1 a2_2 a2_3 a2_4).bind fun bt235 => (some (bt223.1 == bt235.1 && ((bt223.2.1.toList == bt235.2.1.toList && (bt223.2.2.1.toList == bt235.2.2.1.toList && (bt223.2.2.2.1.toList == bt235.2.2.2.1.toList))) && (bt223.2.2.2.2.1 == bt235.2.2.2.2.1 && ((bt223.2.2.2.2.2.1.toList == bt235.2.2.2.2.2.1.toList && (bt223.2.2.2.2.2.2.1.toList == bt235.2.2.2.2.2.2.1.toList)) && (((bt223.2.2.2.2.2.2.2.1.toList == bt235.2.2.2.2.2.2.2.1.toList && (bt223.2.2.2.2.2.2.2.2.1.toList == bt235.2.2.2.2.2.2.2.2.1.toList && (bt223.2.2.2.2.2.2.2.2.2.1.toList == bt235.2.2.2.2.2.2.2.2.2.1.toList))) && (bt223.2.2.2.2.2.2.2.2.2.2.1 == bt235.2.2.2.2.2.2.2.2.2.2.1 && (bt223.2.2.2.2.2.2.2.2.2.2.2.toList == bt235.2.2.2.2.2.2.2.2.2.2.2.toList))))))))))) else (some false)))) else (some false)))) else (some false)) = some r := H
      have A10 := Aside0.mk A100
      clear A100
      by_cases c11 : (t151 == t163 && ((t152.toList == t164.toList && (t153.toList == t165.toList && (t154.toList == t166.toList))) && (t155 == t167 && ((t156.toList == t168.toList && (t157.toList == t169.toList)) && (((t158.toList == t170.toList && (t159.toList == t171.toList && (t160.toList == t172.toList))) && (t161 == t173 && (t162.toList == t174.toList)))))))) = true
      · rw [if_pos c11] at H
        have c11b0 : (t151 == t163 && ((t152.toList == t164.toList && (t153.toList == t165.toList && (t154.toList == t166.toList))) && (t155 == t167 && ((t156.toList == t168.toList && (t157.toList == t169.toList)) && (((t158.toList == t170.toList && (t159.toList == t171.toList && (t160.toList == t172.toList))) && (t161 == t173 && (t162.toList == t174.toList)))))))) = true := c11
        (try (have c11b1 : decide (t151 = t163 && ((t152.toList == t164.toList && (t153.toList == t165.toList && (t154.toList == t166.toList))) && (t155 == t167 && ((t156.toList == t168.toList && (t157.toList == t169.toList)) && (((t158.toList == t170.toList && (t159.toList == t171.toList && (t160.toList == t172.toList))) && (t161 == t173 && (t162.toList == t174.toList)))))))) = true := by simpa using c11))
        (try (have c11b2 : (t151 == t163 && ((t152.toList == t164.toList && (t153.toList == t165.toList && (t154.toList == t166.toList))) && (t155 == t167 && ((t156.toList == t168.toList && (t157.toList == t169.toList)) && (((t158.toList == t170.toList && (t159.toList == t171.toList && (t160.toList == t172.toList))) && (t161 == t173 && (t162.toList == t174.toList)))))))) = true := by simpa using c11))
        clear c11
        replace H := Option.bind_eq_some_iff.mp H
        obtain ⟨⟨t175, t176, t177, t178, t179, t180, t181, t182, t183, t184, t185, t186⟩, A120, H⟩ := H
        replace H : ((secateurref25_Static.f a1_0 a1_1).bind fun bt187 => (if (t175 == bt187.1 && ((t176.toList == bt187.2.1.toList && (t177.toList == bt187.2.2.1.toList && (t178.toList == bt187.2.2.2.1.toList))) && (t179 == bt187.2.2.2.2.1 && ((t180.toList == bt187.2.2.2.2.2.1.toList && (t181.toList == bt187.2.2.2.2.2.2.1.toList)) && (((t182.toList == bt187.2.2.2.2.2.2.2.1.toList && (t183.toList == bt187.2.2.2.2.2.2.2.2.1.toList && (t184.toList == bt187.2.2.2.2.2.2.2.2.2.1.toList))) && (t185 == bt187.2.2.2.2.2.2.2.2.2.2.1 && (t186.toList == bt187.2.2.2.2.2.2.2.2.2.2.2.toList)))))))) = true then ((gen_Field.f a2_0 a2_1 a2_2 a2_3 a2_4 a1_0 a1_1).bind fun bt199 => ((secateurref25_Field.f a2_0 a2_1 a2_2 a2_3 a2_4 a1_0 a1_1).bind fun bt211 => (if (bt199.1 == bt211.1 && ((bt199.2.1.toList == bt211.2.1.toList && (bt199.2.2.1.toList == bt211.2.2.1.toList && (bt199.2.2.2.1.toList == bt211.2.2.2.1.toList))) && (bt199.2.2.2.2.1 == bt211.2.2.2.2.1 && ((bt199.2.2.2.2.2.1.toList == bt211.2.2.2.2.2.1.toList && (bt199.2.2.2.2.2.2.1.toList == bt211.2.2.2.2.2.2.1.toList)) && (((bt199.2.2.2.2.2.2.2.1.toList == bt211.2.2.2.2.2.2.2.1.toList && (bt199.2.2.2.2.2.2.2.2.1.toList == bt211.2.2.2.2.2.2.2.2.1.toList && (bt199.2.2.2.2.2.2.2.2.2.1.toList == bt211.2.2.2.2.2.2.2.2.2.1.toList))) && (bt199.2.2.2.2.2.2.2.2.2.2.1 == bt211.2.2.2.2.2.2.2.2.2.2.1 && (bt199.2.2.2.2.2.2.2.2.2.2.2.toList == bt211.2.2.2.2.2.2.2.2.2.2.2.toList)))))))) = true then ((gen_Element.f a2_0 a2_1 a2_2 a2_3 a2_4).bind fun bt223 => ((secateurref25_Element.f a2_0 a2_1 a2_2 a2_3 a2_4).bind fun bt235 => (some (bt223.1 == bt235.1 && ((bt223.2.1.toList == bt235.2.1.toList && (bt223.2.2.1.toList == bt235.2.2.1.toList && (bt223.2.2.2.1.toList == bt235.2.2.2.1.toList))) && (bt223.2.2.2.2.1 == bt235.2.2.2.2.1 && ((bt223.2.2.2.2.2.1.toList == bt235.2.2.2.2.2.1.toList && (bt223.2.2.2.2.2.2.1.toList == bt235.2.2.2.2.2.2.1.toList)) && (((bt223.2.2.2.2.2.2.2.1.toList == bt235.2.2.2.2.2.2.2.1.toList && (bt223.2.2.2.2.2.2.2.2.1.toList == bt235.2.2.2.2.2.2.2.2.1.toList && (bt223.2.2.2.2.2.2.2.2.2.1.toList == bt235.2.2.2.2.2.2.2.2.2.1.toList))) && (bt223.2.2.2.2.2.2.2.2.2.2.1 == bt235.2.2.2.2.2.2.2.2.2.2.1 && (bt223.2.2.2.2.2.2.2.2.2.2.2.toList == bt235.2.2.2.2.2.2.2.2.2.2.2.toList))))))))))) else (some false)))) else (some false))) = some r := H
        have A12 := Aside0.mk A120
        clear A120
        replace H := Option.bind_eq_some_iff.mp H
        obtain ⟨⟨t187, t188, t189, t190, t191, t192, t193, t194, t195, t196, t197, t198⟩, A130, H⟩ := H
        replace H : (if (t175 == t187 && ((t176.toList == t188.toList && (t177.toList == t189.toList && (t178.toList == t190.toList))) && (t179 == t191 && ((t180.toList == t192.toList && (t181.toList == t193.toList)) && (((t182.toList == t194.toList && (t183.toList == t195.toList && (t184.toList == t196.toList))) && (t185 == t197 && (t186.toList == t198.toList)))))))) = true then ((gen_Field.f a2_0 a2_1 a2_2 a2_3 a2_4 a1_0 a1_1).bind fun bt199 => ((secateurref25_Field.f a2_0 a2_1 a2_2 a2_3 a2_4 a1_0 a1_1).bind fun bt211 => (if (bt199.1 == bt211.1 && ((bt199.2.1.toList == bt211.2.1.toList && (bt199.2.2.1.toList == bt211.2.2.1.toList && (bt199.2.2.2.1.toList == bt211.2.2.2.1.toList))) && (bt199.2.2.2.2.1 == bt211.2.2.2.2.1 && ((bt199.2.2.2.2.2.1.toList == bt211.2.2.2.2.2.1.toList && (bt199.2.2.2.2.2.2.1.toList == bt211.2.2.2.2.2.2.1.toList)) && (((bt199.2.2.2.2.2.2.2.1.toList == bt211.2.2.2.2.2.2.2.1.toList && (bt199.2.2.2.2.2.2.2.2.1.toList == bt211.2.2.2.2.2.2.2.2.1.toList && (bt199.2.2.2.2.2.2.2.2.2.1.toList == bt211.2.2.2.2.2.2.2.2.2.1.toList))) && (bt199.2.2.2.2.2.2.2.2.2.2.1 == bt211.2.2.2.2.2.2.2.2.2.2.1 && (bt199.2.2.2.2.2.2.2.2.2.2.2.toList == bt211.2.2.2.2.2.2.2.2.2.2.2.toList)))))))) = true then ((gen_Element.f a2_0 a2_1 a2_2 a2_3 a2_4).bind fun bt223 => ((secateurref25_Element.f a2_0 a2_1 a2_2 a2_3 a2_4).bind fun bt235 => (some (bt223.1 == bt235.1 && ((bt223.2.1.toList == bt235.2.1.toList && (bt223.2.2.1.toList == bt235.2.2.1.toList && (bt223.2.2.2.1.toList == bt235.2.2.2.1.toList))) && (bt223.2.2.2.2.1 == bt235.2.2.2.2.1 && ((bt223.2.2.2.2.2.1.toList == bt235.2.2.2.2.2.1.toList && (bt223.2.2.2.2.2.2.1.toList == bt235.2.2.2.2.2.2.1.toList)) && (((bt223.2.2.2.2.2.2.2.1.toList == bt235.2.2.2.2.2.2.2.1.toList && (bt223.2.2.2.2.2.2.2.2.1.toList == bt235.2.2.2.2.2.2.2.2.1.toList && (bt223.2.2.2.2.2.2.2.2.2.1.toList == bt235.2.2.2.2.2.2.2.2.2.1.toList))) && (bt223.2.2.2.2.2.2.2.2.2.2.1 == bt235.2.2.2.2.2.2.2.2.2.2.1 && (bt223.2.2.2.2.2.2.2.2.2.2.2.toList == bt235.2.2.2.2.2.2.2.2.2.2.2.toList))))))))))) else (some false)))) else (some false)) = some r := H
        have A13 := Aside0.mk A130
        clear A130
        by_cases c14 : (t175 == t187 && ((t176.toList == t188.toList && (t177.toList == t189.toList && (t178.toList == t190.toList))) && (t179 == t191 && ((t180.toList == t192.toList && (t181.toList == t193.toList)) && (((t182.toList == t194.toList && (t183.toList == t195.toList && (t184.toList == t196.toList))) && (t185 == t197 && (t186.toList == t198.toList)))))))) = true
        · rw [if_pos c14] at H
          have c14b0 : (t175 == t187 && ((t176.toList == t188.toList && (t177.toList == t189.toList && (t178.toList == t190.toList))) && (t179 == t191 && ((t180.toList == t192.toList && (t181.toList == t193.toList)) && (((t182.toList == t194.toList && (t183.toList == t195.toList && (t184.toList == t196.toList))) && (t185 == t197 && (t186.toList == t198.toList)))))))) = true := c14
          (try (have c14b1 : decide (t175 = t187 && ((t176.toList == t188.toList && (t177.toList == t189.toList && (t178.toList == t190.toList))) && (t179 == t191 && ((t180.toList == t192.toList && (t181.toList == t193.toList)) && (((t182.toList == t194.toList && (t183.toList == t195.toList && (t184.toList == t196.toList))) && (t185 == t197 && (t186.toList == t198.toList)))))))) = true := by simpa using c14))
          (try (have c14b2 : (t175 == t187 && ((t176.toList == t188.toList && (t177.toList == t189.toList && (t178.toList == t190.toList))) && (t179 == t191 && ((t180.toList == t192.toList && (t181.toList == t193.toList)) && (((t182.toList == t194.toList && (t183.toList == t195.toList && (t184.toList == t196.toList))) && (t185 == t197 && (t186.toList == t198.toList)))))))) = true := by simpa using c14))
          clear c14
          replace H := Option.bind_eq_some_iff.mp H
          obtain ⟨⟨t199, t200, t201, t202, t203, t204, t205, t206, t207, t208, t209, t210⟩, A150, H⟩ := H
          replace H : ((secateurref25_Field.f a2_0 a2_1 a2_2 a2_3 a2_4 a1_0 a1_1).bind fun bt211 => (if (t199 == bt211.1 && ((t200.toList == bt211.2.1.toList && (t201.toList == bt211.2.2.1.toList && (t202.toList == bt211.2.2.2.1.toList))) && (t203 == bt211.2.2.2.2.1 && ((t204.toList == bt211.2.2.2.2.2.1.toList && (t205.toList == bt211.2.2.2.2.2.2.1.toList)) && (((t206.toList == bt211.2.2.2.2.2.2.2.1.toList && (t207.toList == bt211.2.2.2.2.2.2.2.2.1.toList && (t208.toList == bt211.2.2.2.2.2.2.2.2.2.1.toList))) && (t209 == bt211.2.2.2.2.2.2.2.2.2.2.1 && (t210.toList == bt211.2.2.2.2.2.2.2.2.2.2.2.toList)))))))) = true then ((gen_Element.f a2_0 a2_1 a2_2 a2_3 a2_4).bind fun bt223 => ((secateurref25_Element.f a2_0 a2_1 a2_2 a2_3 a2_4).bind fun bt235 => (some (bt223.1 == bt235.1 && ((bt223.2.1.toList == bt235.2.1.toList && (bt223.2.2.1.toList == bt235.2.2.1.toList && (bt223.2.2.2.1.toList == bt235.2.2.2.1.toList))) && (bt223.2.2.2.2.1 == bt235.2.2.2.2.1 && ((bt223.2.2.2.2.2.1.toList == bt235.2.2.2.2.2.1.toList && (bt223.2.2.2.2.2.2.1.toList == bt235.2.2.2.2.2.2.1.toList)) && (((bt223.2.2.2.2.2.2.2.1.toList == bt235.2.2.2.2.2.2.2.1.toList && (bt223.2.2.2.2.2.2.2.2.1.toList == bt235.2.2.2.2.2.2.2.2.1.toList && (bt223.2.2.2.2.2.2.2.2.2.1.toList == bt235.2.2.2.2.2.2.2.2.2.1.toList))) && (bt223.2.2.2.2.2.2.2.2.2.2.1 == bt235.2.2.2.2.2.2.2.2.2.2.1 && (bt223.2.2.2.2.2.2.2.2.2.2.2.toList == bt235.2.2.2.2.2.2.2.2.2.2.2.toList))))))))))) else (some false))) = some r := H
          have A15 := Aside0.mk A150
          clear A150
          replace H := Option.bind_eq_some_iff.mp H
          obtain ⟨⟨t211, t212, t213, t214, t215, t216, t217, t218, t219, t220, t221, t222⟩, A160, H⟩ := H
          replace H : (if (t199 == t211 && ((t200.toList == t212.toList && (t201.toList == t213.toList && (t202.toList == t214.toList))) && (t203 == t215 && ((t204.toList == t216.toList && (t205.toList == t217.toList)) && (((t206.toList == t218.toList && (t207.toList == t219.toList && (t208.toList == t220.toList))) && (t209 == t221 && (t210.toList == t222.toList)))))))) = true then ((gen_Element.f a2_0 a2_1 a2_2 a2_3 a2_4).bind fun bt223 => ((secateurref25_Element.f a2_0 a2_1 a2_2 a2_3 a2_4).bind fun bt235 => (some (bt223.1 == bt235.1 && ((bt223.2.1.toList == bt235.2.1.toList && (bt223.2.2.1.toList == bt235.2.2.1.toList && (bt223.2.2.2.1.toList == bt235.2.2.2.1.toList))) && (bt223.2.2.2.2.1 == bt235.2.2.2.2.1 && ((bt223.2.2.2.2.2.1.toList == bt235.2.2.2.2.2.1.toList && (bt223.2.2.2.2.2.2.1.toList == bt235.2.2.2.2.2.2.1.toList)) && (((bt223.2.2.2.2.2.2.2.1.toList == bt235.2.2.2.2.2.2.2.1.toList && (bt223.2.2.2.2.2.2.2.2.1.toList == bt235.2.2.2.2.2.2.2.2.1.toList && (bt223.2.2.2.2.2.2.2.2.2.1.toList == bt235.2.2.2.2.2.2.2.2.2.1.toList))) && (bt223.2.2.2.2.2.2.2.2.2.2.1 == bt235.2.2.2.2.2.2.2.2.2.2.1 && (bt223.2.2.2.2.2.2.2.2.2.2.2.toList == bt235.2.2.2.2.2.2.2.2.2.2.2.toList))))))))))) else (some false)) = some r := H
          have A16 := Aside0.mk A160
          clear A160
          by_cases c17 : (t199 == t211 && ((t200.toList == t212.toList && (t201.toList == t213.toList && (t202.toList == t214.toList))) && (t203 == t215 && ((t204.toList == t216.toList && (t205.toList == t217.toList)) && (((t206.toList == t218.toList && (t207.toList == t219.toList && (t208.toList == t220.toList))) && (t209 == t221 && (t210.toList == t222.toList)))))))) = true
          · rw [if_pos c17] at H
            have c17b0 : (t199 == t211 && ((t200.toList == t212.toList && (t201.toList == t213.toList && (t202.toList == t214.toList))) && (t203 == t215 && ((t204.toList == t216.toList && (t205.toList == t217.toList)) && (((t206.toList == t218.toList && (t207.toList == t219.toList && (t208.toList == t220.toList))) && (t209 == t221 && (t210.toList == t222.toList)))))))) = true := c17
            (try (have c17b1 : decide (t199 = t211 && ((t200.toList == t212.toList && (t201.toList == t213.toList && (t202.toList == t214.toList))) && (t203 == t215 && ((t204.toList == t216.toList && (t205.toList == t217.toList)) && (((t206.toList == t218.toList && (t207.toList == t219.toList && (t208.toList == t220.toList))) && (t209 == t221 && (t210.toList == t222.toList)))))))) = true := by simpa using c17))
            (try (have c17b2 : (t199 == t211 && ((t200.toList == t212.toList && (t201.toList == t213.toList && (t202.toList == t214.toList))) && (t203 == t215 && ((t204.toList == t216.toList && (t205.toList == t217.toList)) && (((t206.toList == t218.toList && (t207.toList == t219.toList && (t208.toList == t220.toList))) && (t209 == t221 && (t210.toList == t222.toList)))))))) = true := by simpa using c17))
            clear c17
            replace H := Option.bind_eq_some_iff.mp H
            obtain ⟨⟨t223, t224, t225, t226, t227, t228, t229, t230, t231, t232, t233, t234⟩, A180, H⟩ := H
            replace H : ((secateurref25_Element.f a2_0 a2_1 a2_2 a2_3 a2_4).bind fun bt235 => (some (t223 == bt235.1 && ((t224.toList == bt235.2.1.toList && (t225.toList == bt235.2.2.1.toList && (t226.toList == bt235.2.2.2.1.toList))) && (t227 == bt235.2.2.2.2.1 && ((t228.toList == bt235.2.2.2.2.2.1.toList && (t229.toList == bt235.2.2.2.2.2.2.1.toList)) && (((t230.toList == bt235.2.2.2.2.2.2.2.1.toList && (t231.toList == bt235.2.2.2.2.2.2.2.2.1.toList && (t232.toList == bt235.2.2.2.2.2.2.2.2.2.1.toList))) && (t233 == bt235.2.2.2.2.2.2.2.2.2.2.1 && (t234.toList == bt235.2.2.2.2.2.2.2.2.2.2.2.toList)))))))))) = some r := H
            have A18 := Aside0.mk A180
            clear A180
            replace H := Option.bind_eq_some_iff.mp H
            obtain ⟨⟨t235, t236, t237, t238, t239, t240, t241, t242, t243, t244, t245, t246⟩, A190, H⟩ := H
            replace H : (some (t223 == t235 && ((t224.toList == t236.toList && (t225.toList == t237.toList && (t226.toList == t238.toList))) && (t227 == t239 && ((t228.toList == t240.toList && (t229.toList == t241.toList)) && (((t230.toList == t242.toList && (t231.toList == t243.toList && (t232.toList == t244.toList))) && (t233 == t245 && (t234.toList == t246.toList))))))))) = some r := H
            have A19 := Aside0.mk A190
            clear A190
            obtain rfl := Option.some.inj H
            go_enter Try.func4, Try.ntmps4
            try go_wp2_with (first | ((with_reducible refine gate_dst (N := 3) rfl ?_); refine box_event ?hg (N := 3) ?hd (cs := #[.string a0_0, .string a0_1, .string a0_2]) (t := 25) ?hr ?_; (case hd => rfl); (case hg => rfl); (case hr => first | (go_simp; done) | (go_simp; rfl)); intro gb123 hg w20 hbox hb; have n0_ := Aside0.mk (below_step (by repeat (first | (with_reducible first | exact HB.out | apply below_alloc | apply pw_below_drewN | apply below_drew1) | exact HB.out)) hb); have n1_ := Aside0.mk (hbox); have n2_ := Aside0.mk ((by rw [hg]; exact (below_size (by repeat (first | (with_reducible first | exact HB.out | apply below_alloc | apply pw_below_drewN | apply below_drew1) | exact HB.out))) : w.heap.size ≤ gb123)); have n3_ := Aside0.mk ((by rw [hg]; exact (below_size (by repeat (first | (with_reducible first | exact HB.out | apply below_alloc | apply pw_below_drewN | apply below_drew1) | exact HB.out))) : w.heap.size ≤ gb123)); clear HB; have HB := n0_; have BK123 := n1_; have GW123 := n2_; have GE123 := n3_; clear n0_ n1_ n2_ n3_; clear hb hbox hg) | ((with_reducible refine gate_dst (N := 4) rfl ?_); refine box_event ?hg (N := 4) ?hd (cs := #[.string a1_0, .string a1_1]) (t := 44) ?hr ?_; (case hd => rfl); (case hg => rfl); (case hr => first | (go_simp; done) | (go_simp; rfl)); intro gb124 hg w21 hbox hb; have n0_ := Aside0.mk (blk_below (g := gb123) (o := .cells #[.string a0_0, .string a0_1, .string a0_2] 25 (0, 0)) (by (with_reducible repeat (first | refine blk_drewN ?_ _ | refine blk_drew ?_ | refine blk_alloc ?_ _)); exact BK123.out) hb); have n1_ := Aside0.mk (below_step (by repeat (first | (with_reducible first | exact HB.out | apply below_alloc | apply pw_below_drewN | apply below_drew1 | refine below_set ?_ GE123.out) | exact HB.out)) hb); have n2_ := Aside0.mk (hbox); have n3_ := Aside0.mk ((by rw [hg]; exact (below_size (by repeat (first | (with_reducible first | exact HB.out | apply below_alloc | apply pw_below_drewN | apply below_drew1 | refine below_set ?_ GE123.out) | exact HB.out))) : w.heap.size ≤ gb124)); have n4_ := Aside0.mk ((by rw [hg]; exact (below_size (by repeat (first | (with_reducible first | exact HB.out | apply below_alloc | apply pw_below_drewN | apply below_drew1 | refine below_set ?_ GE123.out) | exact HB.out))) : w.heap.size ≤ gb124)); have n5_ := Aside0.mk ((by rw [hg]; exact Nat.ne_of_lt (blk_lt (g := gb123) (o := .cells #[.string a0_0, .string a0_1, .string a0_2] 25 (0, 0)) (by (with_reducible repeat (first | refine blk_drewN ?_ _ | refine blk_drew ?_ | refine blk_alloc ?_ _)); exact BK123.out)) : gb123 ≠ gb124)); have n6_ := Aside0.mk ((by rw [hg]; exact Nat.ne_of_gt (blk_lt (g := gb123) (o := .cells #[.string a0_0, .string a0_1, .string a0_2] 25 (0, 0)) (by (with_reducible repeat (first | refine blk_drewN ?_ _ | refine blk_drew ?_ | refine blk_alloc ?_ _)); exact BK123.out)) : gb124 ≠ gb123)); clear BK123; clear HB; have BK123 := n0_; have HB := n1_; have BK124 := n2_; have GW124 := n3_; have GE124 := n4_; have NB123_124 := n5_; have NB124_123 := n6_; clear n0_ n1_ n2_ n3_ n4_ n5_ n6_; clear hb hbox hg) | ((with_reducible refine gate_dst (N := 5) rfl ?_); refine box_event ?hg (N := 5) ?hd (cs := #[.string a2_0, .string a2_1, .string a2_2, .int .i64 a2_3, .string a2_4]) (t := 46) ?hr ?_; (case hd => rfl); (case hg => rfl); (case hr => first | (go_simp; done) | (go_simp; rfl)); intro gb125 hg w22 hbox hb; have n0_ := Aside0.mk (blk_below (g := gb123) (o := .cells #[.string a0_0, .string a0_1, .string a0_2] 25 (0, 0)) (by (with_reducible repeat (first | refine blk_drewN ?_ _ | refine blk_drew ?_ | refine blk_alloc ?_ _)); exact BK123.out) hb); have n1_ := Aside0.mk (blk_below (g := gb124) (o := .cells #[.string a1_0, .string a1_1] 44 (0, 0)) (by (with_reducible repeat (first | refine blk_drewN ?_ _ | refine blk_drew ?_ | refine blk_alloc ?_ _)); exact BK124.out) hb); have n2_ := Aside0.mk (below_step (by repeat (first | (with_reducible first | exact HB.out | apply below_alloc | apply pw_below_drewN | apply below_drew1 | refine below_set ?_ GE123.out | refine below_set ?_ GE124.out) | exact HB.out)) hb); have n3_ := Aside0.mk (hbox); have n4_ := Aside0.mk ((by rw [hg]; exact (below_size (by repeat (first | (with_reducible first | exact HB.out | apply below_alloc | apply pw_below_drewN | apply below_drew1 | refine below_set ?_ GE123.out | refine below_set ?_ GE124.out) | exact HB.out))) : w.heap.size ≤ gb125)); have n5_ := Aside0.mk ((by rw [hg]; exact (below_size (by repeat (first | (with_reducible first | exact HB.out | apply below_alloc | apply pw_below_drewN | apply below_drew1 | refine below_set ?_ GE123.out | refine below_set ?_ GE124.out) | exact HB.out))) : w.heap.size ≤ gb125)); have n6_ := Aside0.mk ((by rw [hg]; exact Nat.ne_of_lt (blk_lt (g := gb123) (o := .cells #[.string a0_0, .string a0_1, .string a0_2] 25 (0, 0)) (by (with_reducible repeat (first | refine blk_drewN ?_ _ | refine blk_drew ?_ | refine blk_alloc ?_ _)); exact BK123.out)) : gb123 ≠ gb125)); have n7_ := Aside0.mk ((by rw [hg]; exact Nat.ne_of_gt (blk_lt (g := gb123) (o := .cells #[.string a0_0, .string a0_1, .string a0_2] 25 (0, 0)) (by (with_reducible repeat (first | refine blk_drewN ?_ _ | refine blk_drew ?_ | refine blk_alloc ?_ _)); exact BK123.out)) : gb125 ≠ gb123)); have n8_ := Aside0.mk ((by rw [hg]; exact Nat.ne_of_lt (blk_lt (g := gb124) (o := .cells #[.string a1_0, .string a1_1] 44 (0, 0)) (by (with_reducible repeat (first | refine blk_drewN ?_ _ | refine blk_drew ?_ | refine blk_alloc ?_ _)); exact BK124.out)) : gb124 ≠ gb125)); have n9_ := Aside0.mk ((by rw [hg]; exact Nat.ne_of_gt (blk_lt (g := gb124) (o := .cells #[.string a1_0, .string a1_1] 44 (0, 0)) (by (with_reducible repeat (first | refine blk_drewN ?_ _ | refine blk_drew ?_ | refine blk_alloc ?_ _)); exact BK124.out)) : gb125 ≠ gb124)); clear BK123; clear BK124; clear HB; have BK123 := n0_; have BK124 := n1_; have HB := n2_; have BK125 := n3_; have GW125 := n4_; have GE125 := n5_; have NB123_125 := n6_; have NB125_123 := n7_; have NB124_125 := n8_; have NB125_124 := n9_; clear n0_ n1_ n2_ n3_ n4_ n5_ n6_ n7_ n8_ n9_; clear hb hbox hg; have hnb23 := NB125_123.out; have hnc23 := NB123_125.out; have hnb24 := NB125_124.out; have hnc24 := NB124_125.out; have hcz25_0 : w22.cell? ⟨gb125, 0, none⟩ = some (.string a2_0) := (blk_cell BK125.out 0).trans rfl; have hcz25_1 : w22.cell? ⟨gb125, 1, none⟩ = some (.string a2_1) := (blk_cell BK125.out 1).trans rfl; have hcz25_2 : w22.cell? ⟨gb125, 2, none⟩ = some (.string a2_2) := (blk_cell BK125.out 2).trans rfl; have hcz25_3 : w22.cell? ⟨gb125, 3, none⟩ = some (.int .i64 a2_3) := (blk_cell BK125.out 3).trans rfl; have hcz25_4 : w22.cell? ⟨gb125, 4, none⟩ = some (.string a2_4) := (blk_cell BK125.out 4).trans rfl; have hfz25_0 := blk_frozen BK125.out 0; have hfz25_1 := blk_frozen BK125.out 1; have hfz25_2 := blk_frozen BK125.out 2; have hfz25_3 := blk_frozen BK125.out 3; have hfz25_4 := blk_frozen BK125.out 4))
            have n0_ := Aside0.mk (blk_drew BK123.out)
            have n1_ := Aside0.mk (blk_drew BK124.out)
            have n2_ := Aside0.mk (blk_drew BK125.out)
            have n3_ := Aside0.mk (below_drew1 HB.out)
            clear BK123
            clear BK124
            clear BK125
            clear HB
            have BK123 := n0_
            have BK124 := n1_
            have BK125 := n2_
            have HB := n3_
            clear n0_ n1_ n2_ n3_
            refine start_ (n := 41) (S := fun w' => w'.cell? ⟨gb123, 0, none⟩ = some (.string a0_0) ∧ w'.cell? ⟨gb123, 1, none⟩ = some (.string a0_1) ∧ w'.cell? ⟨gb123, 2, none⟩ = some (.string a0_2) ∧ w'.cell? ⟨gb124, 0, none⟩ = some (.string a1_0) ∧ w'.cell? ⟨gb124, 1, none⟩ = some (.string a1_1) ∧ w'.cell? ⟨gb125, 0, none⟩ = some (.string a2_0) ∧ w'.cell? ⟨gb125, 1, none⟩ = some (.string a2_1) ∧ w'.cell? ⟨gb125, 2, none⟩ = some (.string a2_2) ∧ w'.cell? ⟨gb125, 3, none⟩ = some (.int .i64 a2_3) ∧ w'.cell? ⟨gb125, 4, none⟩ = some (.string a2_4)) (ds := []) #[false, false, false, false, false, false, false, false, false, false, false, false, false, false, false, false, false, false, false, false, false, false, false, false, false, false, false, false, false, false, false, false, false, false, false, false, false, false, false, false, false] (by kernel_rfl) rfl rfl ⟨(blk_cell BK123.out 0).trans rfl, (blk_cell BK123.out 1).trans rfl, (blk_cell BK123.out 2).trans rfl, (blk_cell BK124.out 0).trans rfl, (blk_cell BK124.out 1).trans rfl, (blk_cell BK125.out 0).trans rfl, (blk_cell BK125.out 1).trans rfl, (blk_cell BK125.out 2).trans rfl, (blk_cell BK125.out 3).trans rfl, (blk_cell BK125.out 4).trans rfl⟩ (fun hHeld => ?_); refine with_tabW secateurlaw25_GenPlaces.tab2 secateurlaw25_GenPlaces.bits2 (fun HT_ HW_ => ?_)
            generalize w22.drew = w26 at BK123 BK124 BK125 HB hHeld ⊢
            refine one_ (i := 0) (N := some 10) #[true, false, false, false, false, false, false, false, false, false, false, false, false, false, false, false, false, false, false, false, false, false, false, false, false, false, false, false, false, false, false, false, false, false, false, false, false, false, false, false, false] rfl rfl (one_of HT_.out (by kernel_rfl)) (by decide) (fun K hK => ?_)
            refine goes_ Try.func12 (by kernel_rfl) rfl #[] (by rfl) rfl rfl (by (try simp only [List.map_toArray, List.map_cons, List.map_nil]); first | done | rfl | (simp only [List.length_drop, List.length_take]; rfl)) ?_
            with_reducible refine (secateurlaw25_live.calls  true _ A4.out).mono ?_
            rintro e w27 ⟨rfl, hb⟩
            refine ⟨_, rfl, ?_⟩
            have n0_ := Aside0.mk (blk_below (g := gb123) (o := .cells #[.string a0_0, .string a0_1, .string a0_2] 25 (0, 0)) (by (with_reducible repeat (first | refine blk_drewN ?_ _ | refine blk_drew ?_ | refine blk_alloc ?_ _)); exact BK123.out) hb)
            have n1_ := Aside0.mk (blk_below (g := gb124) (o := .cells #[.string a1_0, .string a1_1] 44 (0, 0)) (by (with_reducible repeat (first | refine blk_drewN ?_ _ | refine blk_drew ?_ | refine blk_alloc ?_ _)); exact BK124.out) hb)
            have n2_ := Aside0.mk (blk_below (g := gb125) (o := .cells #[.string a2_0, .string a2_1, .string a2_2, .int .i64 a2_3, .string a2_4] 46 (0, 0)) (by (with_reducible repeat (first | refine blk_drewN ?_ _ | refine blk_drew ?_ | refine blk_alloc ?_ _)); exact BK125.out) hb)
            have n3_ := Aside0.mk (below_step (by repeat (first | (with_reducible first | exact HB.out | apply below_alloc | apply pw_below_drewN | apply below_drew1 | refine below_set ?_ GE123.out | refine below_set ?_ GE124.out | refine below_set ?_ GE125.out) | exact HB.out)) hb)
            clear BK123
            clear BK124
            clear BK125
            clear HB
            have BK123 := n0_
            have BK124 := n1_
            have BK125 := n2_
            have HB := n3_
            clear n0_ n1_ n2_ n3_
            (try clear hb)
            (try clear hb2)
            (try clear hk)
            (try clear hi)
            refine hK.out _ _ ⟨(blk_cell BK123.out 0).trans rfl, (blk_cell BK123.out 1).trans rfl, (blk_cell BK123.out 2).trans rfl, (blk_cell BK124.out 0).trans rfl, (blk_cell BK124.out 1).trans rfl, (blk_cell BK125.out 0).trans rfl, (blk_cell BK125.out 1).trans rfl, (blk_cell BK125.out 2).trans rfl, (blk_cell BK125.out 3).trans rfl, (blk_cell BK125.out 4).trans rfl⟩ (fun hHeld => ?_)
            clear hK K
            refine norm_ (a' := ?_) ?_ ?_
            rotate_left
            · show Act.put _ (some 10) _ = _
              simp only [Act.put, List.setIfInBounds_toArray, List.set_cons_zero, List.set_cons_succ, i64_w, i32_w]
              rfl
            refine pure_ (i := 1) (N := some 11) (v := ?_) (a' := ?_) #[true, true, false, false, false, false, false, false, false, false, false, false, false, false, false, false, false, false, false, false, false, false, false, false, false, false, false, false, false, false, false, false, false, false, false, false, false, false, false, false, false] rfl rfl (any_of HT_.out (by kernel_rfl)) (fun _ _ _ h => h) (Or.inl ⟨by rfl, ?_⟩) ?_ ?_
            rotate_left
            · intro w'
              go_simp
              with_reducible rfl
            rotate_left
            · simp only [Act.put, List.setIfInBounds_toArray, List.set_cons_zero, List.set_cons_succ, i64_w, i32_w]
              rfl
            refine pure_ (i := 3) (N := some 13) (v := ?_) (a' := ?_) #[true, true, false, true, false, false, false, false, false, false, false, false, false, false, false, false, false, false, false, false, false, false, false, false, false, false, false, false, false, false, false, false, false, false, false, false, false, false, false, false, false] rfl rfl (any_of HT_.out (by kernel_rfl)) (fun _ _ _ h => h) (Or.inl ⟨by rfl, ?_⟩) ?_ ?_
            rotate_left
            · intro w'
              go_simp
              with_reducible rfl
            rotate_left
            · simp only [Act.put, List.setIfInBounds_toArray, List.set_cons_zero, List.set_cons_succ, i64_w, i32_w]
              rfl
            refine pure_ (i := 6) (N := some 16) (v := ?_) (a' := ?_) #[true, true, false, true, false, false, true, false, false, false, false, false, false, false, false, false, false, false, false, false, false, false, false, false, false, false, false, false, false, false, false, false, false, false, false, false, false, false, false, false, false] rfl rfl (any_of HT_.out (by kernel_rfl)) (fun _ _ _ h => h) (Or.inl ⟨by rfl, ?_⟩) ?_ ?_
            rotate_left
            · intro w'
              go_simp
              with_reducible rfl
            rotate_left
            · simp only [Act.put, List.setIfInBounds_toArray, List.set_cons_zero, List.set_cons_succ, i64_w, i32_w]
              rfl
            refine take_ (i := 2) (N := some 12) (v := ?_) (a' := ?_) #[true, true, true, true, false, false, true, false, false, false, false, false, false, false, false, false, false, false, false, false, false, false, false, false, false, false, false, false, false, false, false, false, false, false, false, false, false, false, false, false, false] rfl rfl (take_ofW HT_.out HW_.out (by kernel_rfl)) (fun _ _ _ h => h) (Or.inl ⟨by rfl, ?_⟩) hHeld ?_ ?_
            rotate_left
            · rintro w' ⟨s0, s1, s2, s3, s4, s5, s6, s7, s8, s9⟩
              go_simp
              with_reducible rfl
            rotate_left
            · simp only [Act.put, List.setIfInBounds_toArray, List.set_cons_zero, List.set_cons_succ, i64_w, i32_w]
              rfl
            refine take_ (i := 5) (N := some 15) (v := ?_) (a' := ?_) #[true, true, true, true, false, true, true, false, false, false, false, false, false, false, false, false, false, false, false, false, false, false, false, false, false, false, false, false, false, false, false, false, false, false, false, false, false, false, false, false, false] rfl rfl (take_ofW HT_.out HW_.out (by kernel_rfl)) (fun _ _ _ h => h) (Or.inl ⟨by rfl, ?_⟩) hHeld ?_ ?_
            rotate_left
            · rintro w' ⟨s0, s1, s2, s3, s4, s5, s6, s7, s8, s9⟩
              go_simp
              with_reducible rfl
            rotate_left
            · simp only [Act.put, List.setIfInBounds_toArray, List.set_cons_zero, List.set_cons_succ, i64_w, i32_w]
              rfl
            refine one_ (i := 4) (N := some 14) #[true, true, true, true, true, true, true, false, false, false, false, false, false, false, false, false, false, false, false, false, false, false, false, false, false, false, false, false, false, false, false, false, false, false, false, false, false, false, false, false, false] rfl rfl (one_of HT_.out (by kernel_rfl)) (by decide) (fun K hK => ?_)
            refine goes_ Try.func13 (by kernel_rfl) rfl #[.agg #[.string a0_0, .string a0_1, .string a0_2], .int .i64 a2_3] (by rfl) rfl rfl (by (try simp only [List.map_toArray, List.map_cons, List.map_nil]); first | done | rfl | (simp only [List.length_drop, List.length_take]; rfl)) ?_
            with_reducible refine (gen_Reg.calls a0_0 a0_1 a0_2 a2_3 t127 t128 t129 t130 t131 t132 t133 t134 t135 t136 t137 t138 _ A6.out).mono ?_
            rintro e w28 ⟨rfl, hb⟩
            refine ⟨_, rfl, ?_⟩
            have n0_ := Aside0.mk (blk_below (g := gb123) (o := .cells #[.string a0_0, .string a0_1, .string a0_2] 25 (0, 0)) (by (with_reducible repeat (first | refine blk_drewN ?_ _ | refine blk_drew ?_ | refine blk_alloc ?_ _)); exact BK123.out) hb)
            have n1_ := Aside0.mk (blk_below (g := gb124) (o := .cells #[.string a1_0, .string a1_1] 44 (0, 0)) (by (with_reducible repeat (first | refine blk_drewN ?_ _ | refine blk_drew ?_ | refine blk_alloc ?_ _)); exact BK124.out) hb)
            have n2_ := Aside0.mk (blk_below (g := gb125) (o := .cells #[.string a2_0, .string a2_1, .string a2_2, .int .i64 a2_3, .string a2_4] 46 (0, 0)) (by (with_reducible repeat (first | refine blk_drewN ?_ _ | refine blk_drew ?_ | refine blk_alloc ?_ _)); exact BK125.out) hb)
            have n3_ := Aside0.mk (below_step (by repeat (first | (with_reducible first | exact HB.out | apply below_alloc | apply pw_below_drewN | apply below_drew1 | refine below_set ?_ GE123.out | refine below_set ?_ GE124.out | refine below_set ?_ GE125.out) | exact HB.out)) hb)
            clear BK123
            clear BK124
            clear BK125
            clear HB
            have BK123 := n0_
            have BK124 := n1_
            have BK125 := n2_
            have HB := n3_
            clear n0_ n1_ n2_ n3_
            (try clear hb)
            (try clear hb2)
            (try clear hk)
            (try clear hi)
            refine hK.out _ _ ⟨(blk_cell BK123.out 0).trans rfl, (blk_cell BK123.out 1).trans rfl, (blk_cell BK123.out 2).trans rfl, (blk_cell BK124.out 0).trans rfl, (blk_cell BK124.out 1).trans rfl, (blk_cell BK125.out 0).trans rfl, (blk_cell BK125.out 1).trans rfl, (blk_cell BK125.out 2).trans rfl, (blk_cell BK125.out 3).trans rfl, (blk_cell BK125.out 4).trans rfl⟩ (fun hHeld => ?_)
            clear hK K
            refine norm_ (a' := ?_) ?_ ?_
            rotate_left
            · show Act.put _ (some 14) _ = _
              simp only [Act.put, List.setIfInBounds_toArray, List.set_cons_zero, List.set_cons_succ, i64_w, i32_w]
              rfl
            refine one_ (i := 7) (N := some 17) #[true, true, true, true, true, true, true, true, false, false, false, false, false, false, false, false, false, false, false, false, false, false, false, false, false, false, false, false, false, false, false, false, false, false, false, false, false, false, false, false, false] rfl rfl (one_of HT_.out (by kernel_rfl)) (by decide) (fun K hK => ?_)
            refine goes_ Try.func14 (by kernel_rfl) rfl #[.agg #[.string a0_0, .string a0_1, .string a0_2], .int .i64 a2_3] (by rfl) rfl rfl (by (try simp only [List.map_toArray, List.map_cons, List.map_nil]); first | done | rfl | (simp only [List.length_drop, List.length_take]; rfl)) ?_
            with_reducible refine (secateurref25_Reg.calls a0_0 a0_1 a0_2 a2_3 t139 t140 t141 t142 t143 t144 t145 t146 t147 t148 t149 t150 _ A7.out).mono ?_
            rintro e w29 ⟨rfl, hb⟩
            refine ⟨_, rfl, ?_⟩
            have n0_ := Aside0.mk (blk_below (g := gb123) (o := .cells #[.string a0_0, .string a0_1, .string a0_2] 25 (0, 0)) (by (with_reducible repeat (first | refine blk_drewN ?_ _ | refine blk_drew ?_ | refine blk_alloc ?_ _)); exact BK123.out) hb)
            have n1_ := Aside0.mk (blk_below (g := gb124) (o := .cells #[.string a1_0, .string a1_1] 44 (0, 0)) (by (with_reducible repeat (first | refine blk_drewN ?_ _ | refine blk_drew ?_ | refine blk_alloc ?_ _)); exact BK124.out) hb)
            have n2_ := Aside0.mk (blk_below (g := gb125) (o := .cells #[.string a2_0, .string a2_1, .string a2_2, .int .i64 a2_3, .string a2_4] 46 (0, 0)) (by (with_reducible repeat (first | refine blk_drewN ?_ _ | refine blk_drew ?_ | refine blk_alloc ?_ _)); exact BK125.out) hb)
            have n3_ := Aside0.mk (below_step (by repeat (first | (with_reducible first | exact HB.out | apply below_alloc | apply pw_below_drewN | apply below_drew1 | refine below_set ?_ GE123.out | refine below_set ?_ GE124.out | refine below_set ?_ GE125.out) | exact HB.out)) hb)
            clear BK123
            clear BK124
            clear BK125
            clear HB
            have BK123 := n0_
            have BK124 := n1_
            have BK125 := n2_
            have HB := n3_
            clear n0_ n1_ n2_ n3_
            (try clear hb)
            (try clear hb2)
            (try clear hk)
            (try clear hi)
            refine hK.out _ _ ⟨(blk_cell BK123.out 0).trans rfl, (blk_cell BK123.out 1).trans rfl, (blk_cell BK123.out 2).trans rfl, (blk_cell BK124.out 0).trans rfl, (blk_cell BK124.out 1).trans rfl, (blk_cell BK125.out 0).trans rfl, (blk_cell BK125.out 1).trans rfl, (blk_cell BK125.out 2).trans rfl, (blk_cell BK125.out 3).trans rfl, (blk_cell BK125.out 4).trans rfl⟩ (fun hHeld => ?_)
            clear hK K
            refine norm_ (a' := ?_) ?_ ?_
            rotate_left
            · show Act.put _ (some 17) _ = _
              simp only [Act.put, List.setIfInBounds_toArray, List.set_cons_zero, List.set_cons_succ, i64_w, i32_w]
              rfl
            refine pure_ (i := 8) (N := some 18) (v := ?_) (a' := ?_) #[true, true, true, true, true, true, true, true, true, false, false, false, false, false, false, false, false, false, false, false, false, false, false, false, false, false, false, false, false, false, false, false, false, false, false, false, false, false, false, false, false] rfl rfl (any_of HT_.out (by kernel_rfl)) (fun _ _ _ h => h) (Or.inl ⟨by rfl, ?_⟩) ?_ ?_
            rotate_left
            · intro w'
              go_simp
              with_reducible rfl
            rotate_left
            · simp only [Act.put, List.setIfInBounds_toArray, List.set_cons_zero, List.set_cons_succ, i64_w, i32_w]
              rfl
            refine pure_ (i := 9) (N := some 19) (v := ?_) (a' := ?_) #[true, true, true, true, true, true, true, true, true, true, false, false, false, false, false, false, false, false, false, false, false, false, false, false, false, false, false, false, false, false, false, false, false, false, false, false, false, false, false, false, false] rfl rfl (any_of HT_.out (by kernel_rfl)) (fun _ _ _ h => h) (Or.inl ⟨by rfl, ?_⟩) ?_ ?_
            rotate_left
            · intro w'
              go_simp
              with_reducible rfl
            rotate_left
            · simp only [Act.put, List.setIfInBounds_toArray, List.set_cons_zero, List.set_cons_succ, i64_w, i32_w]
              rfl
            refine pure_ (i := 10) (N := some 20) (v := ?_) (a' := ?_) #[true, true, true, true, true, true, true, true, true, true, true, false, false, false, false, false, false, false, false, false, false, false, false, false, false, false, false, false, false, false, false, false, false, false, false, false, false, false, false, false, false] rfl rfl (any_of HT_.out (by kernel_rfl)) (fun _ _ _ h => h) (Or.inl ⟨by rfl, ?_⟩) ?_ ?_
            rotate_left
            · intro w'
              go_simp
              with_reducible rfl
            rotate_left
            · simp only [Act.put, List.setIfInBounds_toArray, List.set_cons_zero, List.set_cons_succ, i64_w, i32_w]
              rfl
            refine take_ (i := 11) (N := some 21) (v := ?_) (a' := ?_) #[true, true, true, true, true, true, true, true, true, true, true, true, false, false, false, false, false, false, false, false, false, false, false, false, false, false, false, false, false, false, false, false, false, false, false, false, false, false, false, false, false] rfl rfl (take_ofW HT_.out HW_.out (by kernel_rfl)) (fun _ _ _ h => h) (Or.inl ⟨by rfl, ?_⟩) hHeld ?_ ?_
            rotate_left
            · rintro w' ⟨s0, s1, s2, s3, s4, s5, s6, s7, s8, s9⟩
              go_simp
              with_reducible rfl
            rotate_left
            · simp only [Act.put, List.setIfInBounds_toArray, List.set_cons_zero, List.set_cons_succ, i64_w, i32_w]
              rfl
            refine take_ (i := 13) (N := some 23) (v := ?_) (a' := ?_) #[true, true, true, true, true, true, true, true, true, true, true, true, false, true, false, false, false, false, false, false, false, false, false, false, false, false, false, false, false, false, false, false, false, false, false, false, false, false, false, false, false] rfl rfl (take_ofW HT_.out HW_.out (by kernel_rfl)) (fun _ _ _ h => h) (Or.inl ⟨by rfl, ?_⟩) hHeld ?_ ?_
            rotate_left
            · rintro w' ⟨s0, s1, s2, s3, s4, s5, s6, s7, s8, s9⟩
              go_simp
              with_reducible rfl
            rotate_left
            · simp only [Act.put, List.setIfInBounds_toArray, List.set_cons_zero, List.set_cons_succ, i64_w, i32_w]
              rfl
            refine one_ (i := 12) (N := some 22) #[true, true, true, true, true, true, true, true, true, true, true, true, true, true, false, false, false, false, false, false, false, false, false, false, false, false, false, false, false, false, false, false, false, false, false, false, false, false, false, false, false] rfl rfl (one_of HT_.out (by kernel_rfl)) (by decide) (fun K hK => ?_)
            refine goes_ Try.func15 (by kernel_rfl) rfl #[.agg #[.string a0_0, .string a0_1, .string a0_2]] (by rfl) rfl rfl (by (try simp only [List.map_toArray, List.map_cons, List.map_nil]); first | done | rfl | (simp only [List.length_drop, List.length_take]; rfl)) ?_
            with_reducible refine (gen_Ret.calls a0_0 a0_1 a0_2 t151 t152 t153 t154 t155 t156 t157 t158 t159 t160 t161 t162 _ A9.out).mono ?_
            rintro e w30 ⟨rfl, hb⟩
            refine ⟨_, rfl, ?_⟩
            have n0_ := Aside0.mk (blk_below (g := gb123) (o := .cells #[.string a0_0, .string a0_1, .string a0_2] 25 (0, 0)) (by (with_reducible repeat (first | refine blk_drewN ?_ _ | refine blk_drew ?_ | refine blk_alloc ?_ _)); exact BK123.out) hb)
            have n1_ := Aside0.mk (blk_below (g := gb124) (o := .cells #[.string a1_0, .string a1_1] 44 (0, 0)) (by (with_reducible repeat (first | refine blk_drewN ?_ _ | refine blk_drew ?_ | refine blk_alloc ?_ _)); exact BK124.out) hb)
            have n2_ := Aside0.mk (blk_below (g := gb125) (o := .cells #[.string a2_0, .string a2_1, .string a2_2, .int .i64 a2_3, .string a2_4] 46 (0, 0)) (by (with_reducible repeat (first | refine blk_drewN ?_ _ | refine blk_drew ?_ | refine blk_alloc ?_ _)); exact BK125.out) hb)
            have n3_ := Aside0.mk (below_step (by repeat (first | (with_reducible first | exact HB.out | apply below_alloc | apply pw_below_drewN | apply below_drew1 | refine below_set ?_ GE123.out | refine below_set ?_ GE124.out | refine below_set ?_ GE125.out) | exact HB.out)) hb)
            clear BK123
            clear BK124
            clear BK125
            clear HB
            have BK123 := n0_
            have BK124 := n1_
            have BK125 := n2_
            have HB := n3_
            clear n0_ n1_ n2_ n3_
            (try clear hb)
            (try clear hb2)
            (try clear hk)
            (try clear hi)
            refine hK.out _ _ ⟨(blk_cell BK123.out 0).trans rfl, (blk_cell BK123.out 1).trans rfl, (blk_cell BK123.out 2).trans rfl, (blk_cell BK124.out 0).trans rfl, (blk_cell BK124.out 1).trans rfl, (blk_cell BK125.out 0).trans rfl, (blk_cell BK125.out 1).trans rfl, (blk_cell BK125.out 2).trans rfl, (blk_cell BK125.out 3).trans rfl, (blk_cell BK125.out 4).trans rfl⟩ (fun hHeld => ?_)
            clear hK K
            refine norm_ (a' := ?_) ?_ ?_
            rotate_left
            · show Act.put _ (some 22) _ = _
              simp only [Act.put, List.setIfInBounds_toArray, List.set_cons_zero, List.set_cons_succ, i64_w, i32_w]
              rfl
            refine one_ (i := 14) (N := some 24) #[true, true, true, true, true, true, true, true, true, true, true, true, true, true, true, false, false, false, false, false, false, false, false, false, false, false, false, false, false, false, false, false, false, false, false, false, false, false, false, false, false] rfl rfl (one_of HT_.out (by kernel_rfl)) (by decide) (fun K hK => ?_)
            refine goes_ Try.func16 (by kernel_rfl) rfl #[.agg #[.string a0_0, .string a0_1, .string a0_2]] (by rfl) rfl rfl (by (try simp only [List.map_toArray, List.map_cons, List.map_nil]); first | done | rfl | (simp only [List.length_drop, List.length_take]; rfl)) ?_
            with_reducible refine (secateurref25_Ret.calls a0_0 a0_1 a0_2 t163 t164 t165 t166 t167 t168 t169 t170 t171 t172 t173 t174 _ A10.out).mono ?_
            rintro e w31 ⟨rfl, hb⟩
            refine ⟨_, rfl, ?_⟩
            have n0_ := Aside0.mk (blk_below (g := gb123) (o := .cells #[.string a0_0, .string a0_1, .string a0_2] 25 (0, 0)) (by (with_reducible repeat (first | refine blk_drewN ?_ _ | refine blk_drew ?_ | refine blk_alloc ?_ _)); exact BK123.out) hb)
            have n1_ := Aside0.mk (blk_below (g := gb124) (o := .cells #[.string a1_0, .string a1_1] 44 (0, 0)) (by (with_reducible repeat (first | refine blk_drewN ?_ _ | refine blk_drew ?_ | refine blk_alloc ?_ _)); exact BK124.out) hb)
            have n2_ := Aside0.mk (blk_below (g := gb125) (o := .cells #[.string a2_0, .string a2_1, .string a2_2, .int .i64 a2_3, .string a2_4] 46 (0, 0)) (by (with_reducible repeat (first | refine blk_drewN ?_ _ | refine blk_drew ?_ | refine blk_alloc ?_ _)); exact BK125.out) hb)
            have n3_ := Aside0.mk (below_step (by repeat (first | (with_reducible first | exact HB.out | apply below_alloc | apply pw_below_drewN | apply below_drew1 | refine below_set ?_ GE123.out | refine below_set ?_ GE124.out | refine below_set ?_ GE125.out) | exact HB.out)) hb)
            clear BK123
            clear BK124
            clear BK125
            clear HB
            have BK123 := n0_
            have BK124 := n1_
            have BK125 := n2_
            have HB := n3_
            clear n0_ n1_ n2_ n3_
            (try clear hb)
            (try clear hb2)
            (try clear hk)
            (try clear hi)
            refine hK.out _ _ ⟨(blk_cell BK123.out 0).trans rfl, (blk_cell BK123.out 1).trans rfl, (blk_cell BK123.out 2).trans rfl, (blk_cell BK124.out 0).trans rfl, (blk_cell BK124.out 1).trans rfl, (blk_cell BK125.out 0).trans rfl, (blk_cell BK125.out 1).trans rfl, (blk_cell BK125.out 2).trans rfl, (blk_cell BK125.out 3).trans rfl, (blk_cell BK125.out 4).trans rfl⟩ (fun hHeld => ?_)
            clear hK K
            refine norm_ (a' := ?_) ?_ ?_
            rotate_left
            · show Act.put _ (some 24) _ = _
              simp only [Act.put, List.setIfInBounds_toArray, List.set_cons_zero, List.set_cons_succ, i64_w, i32_w]
              rfl
            refine pure_ (i := 15) (N := some 25) (v := ?_) (a' := ?_) #[true, true, true, true, true, true, true, true, true, true, true, true, true, true, true, true, false, false, false, false, false, false, false, false, false, false, false, false, false, false, false, false, false, false, false, false, false, false, false, false, false] rfl rfl (any_of HT_.out (by kernel_rfl)) (fun _ _ _ h => h) (Or.inl ⟨by rfl, ?_⟩) ?_ ?_
            rotate_left
            · intro w'
              go_simp
              with_reducible rfl
            rotate_left
            · simp only [Act.put, List.setIfInBounds_toArray, List.set_cons_zero, List.set_cons_succ, i64_w, i32_w]
              rfl
            refine pure_ (i := 16) (N := some 26) (v := ?_) (a' := ?_) #[true, true, true, true, true, true, true, true, true, true, true, true, true, true, true, true, true, false, false, false, false, false, false, false, false, false, false, false, false, false, false, false, false, false, false, false, false, false, false, false, false] rfl rfl (any_of HT_.out (by kernel_rfl)) (fun _ _ _ h => h) (Or.inl ⟨by rfl, ?_⟩) ?_ ?_
            rotate_left
            · intro w'
              go_simp
              with_reducible rfl
            rotate_left
            · simp only [Act.put, List.setIfInBounds_toArray, List.set_cons_zero, List.set_cons_succ, i64_w, i32_w]
              rfl
            refine pure_ (i := 17) (N := some 27) (v := ?_) (a' := ?_) #[true, true, true, true, true, true, true, true, true, true, true, true, true, true, true, true, true, true, false, false, false, false, false, false, false, false, false, false, false, false, false, false, false, false, false, false, false, false, false, false, false] rfl rfl (any_of HT_.out (by kernel_rfl)) (fun _ _ _ h => h) (Or.inl ⟨by rfl, ?_⟩) ?_ ?_
            rotate_left
            · intro w'
              go_simp
              with_reducible rfl
            rotate_left
            · simp only [Act.put, List.setIfInBounds_toArray, List.set_cons_zero, List.set_cons_succ, i64_w, i32_w]
              rfl
            refine take_ (i := 18) (N := some 28) (v := ?_) (a' := ?_) #[true, true, true, true, true, true, true, true, true, true, true, true, true, true, true, true, true, true, true, false, false, false, false, false, false, false, false, false, false, false, false, false, false, false, false, false, false, false, false, false, false] rfl rfl (take_ofW HT_.out HW_.out (by kernel_rfl)) (fun _ _ _ h => h) (Or.inl ⟨by rfl, ?_⟩) hHeld ?_ ?_
            rotate_left
            · rintro w' ⟨s0, s1, s2, s3, s4, s5, s6, s7, s8, s9⟩
              go_simp
              with_reducible rfl
            rotate_left
            · simp only [Act.put, List.setIfInBounds_toArray, List.set_cons_zero, List.set_cons_succ, i64_w, i32_w]
              rfl
            refine take_ (i := 20) (N := some 30) (v := ?_) (a' := ?_) #[true, true, true, true, true, true, true, true, true, true, true, true, true, true, true, true, true, true, true, false, true, false, false, false, false, false, false, false, false, false, false, false, false, false, false, false, false, false, false, false, false] rfl rfl (take_ofW HT_.out HW_.out (by kernel_rfl)) (fun _ _ _ h => h) (Or.inl ⟨by rfl, ?_⟩) hHeld ?_ ?_
            rotate_left
            · rintro w' ⟨s0, s1, s2, s3, s4, s5, s6, s7, s8, s9⟩
              go_simp
              with_reducible rfl
            rotate_left
            · simp only [Act.put, List.setIfInBounds_toArray, List.set_cons_zero, List.set_cons_succ, i64_w, i32_w]
              rfl
            refine one_ (i := 19) (N := some 29) #[true, true, true, true, true, true, true, true, true, true, true, true, true, true, true, true, true, true, true, true, true, false, false, false, false, false, false, false, false, false, false, false, false, false, false, false, false, false, false, false, false] rfl rfl (one_of HT_.out (by kernel_rfl)) (by decide) (fun K hK => ?_)
            refine goes_ Try.func17 (by kernel_rfl) rfl #[.agg #[.string a1_0, .string a1_1]] (by rfl) rfl rfl (by (try simp only [List.map_toArray, List.map_cons, List.map_nil]); first | done | rfl | (simp only [List.length_drop, List.length_take]; rfl)) ?_
            with_reducible refine (gen_Static.calls a1_0 a1_1 t175 t176 t177 t178 t179 t180 t181 t182 t183 t184 t185 t186 _ A12.out).mono ?_
            rintro e w32 ⟨rfl, hb⟩
            refine ⟨_, rfl, ?_⟩
            have n0_ := Aside0.mk (blk_below (g := gb123) (o := .cells #[.string a0_0, .string a0_1, .string a0_2] 25 (0, 0)) (by (with_reducible repeat (first | refine blk_drewN ?_ _ | refine blk_drew ?_ | refine blk_alloc ?_ _)); exact BK123.out) hb)
            have n1_ := Aside0.mk (blk_below (g := gb124) (o := .cells #[.string a1_0, .string a1_1] 44 (0, 0)) (by (with_reducible repeat (first | refine blk_drewN ?_ _ | refine blk_drew ?_ | refine blk_alloc ?_ _)); exact BK124.out) hb)
            have n2_ := Aside0.mk (blk_below (g := gb125) (o := .cells #[.string a2_0, .string a2_1, .string a2_2, .int .i64 a2_3, .string a2_4] 46 (0, 0)) (by (with_reducible repeat (first | refine blk_drewN ?_ _ | refine blk_drew ?_ | refine blk_alloc ?_ _)); exact BK125.out) hb)
            have n3_ := Aside0.mk (below_step (by repeat (first | (with_reducible first | exact HB.out | apply below_alloc | apply pw_below_drewN | apply below_drew1 | refine below_set ?_ GE123.out | refine below_set ?_ GE124.out | refine below_set ?_ GE125.out) | exact HB.out)) hb)
            clear BK123
            clear BK124
            clear BK125
            clear HB
            have BK123 := n0_
            have BK124 := n1_
            have BK125 := n2_
            have HB := n3_
            clear n0_ n1_ n2_ n3_
            (try clear hb)
            (try clear hb2)
            (try clear hk)
            (try clear hi)
            refine hK.out _ _ ⟨(blk_cell BK123.out 0).trans rfl, (blk_cell BK123.out 1).trans rfl, (blk_cell BK123.out 2).trans rfl, (blk_cell BK124.out 0).trans rfl, (blk_cell BK124.out 1).trans rfl, (blk_cell BK125.out 0).trans rfl, (blk_cell BK125.out 1).trans rfl, (blk_cell BK125.out 2).trans rfl, (blk_cell BK125.out 3).trans rfl, (blk_cell BK125.out 4).trans rfl⟩ (fun hHeld => ?_)
            clear hK K
            refine norm_ (a' := ?_) ?_ ?_
            rotate_left
            · show Act.put _ (some 29) _ = _
              simp only [Act.put, List.setIfInBounds_toArray, List.set_cons_zero, List.set_cons_succ, i64_w, i32_w]
              rfl
            refine one_ (i := 21) (N := some 31) #[true, true, true, true, true, true, true, true, true, true, true, true, true, true, true, true, true, true, true, true, true, true, false, false, false, false, false, false, false, false, false, false, false, false, false, false, false, false, false, false, false] rfl rfl (one_of HT_.out (by kernel_rfl)) (by decide) (fun K hK => ?_)
            refine goes_ Try.func18 (by kernel_rfl) rfl #[.agg #[.string a1_0, .string a1_1]] (by rfl) rfl rfl (by (try simp only [List.map_toArray, List.map_cons, List.map_nil]); first | done | rfl | (simp only [List.length_drop, List.length_take]; rfl)) ?_
            with_reducible refine (secateurref25_Static.calls a1_0 a1_1 t187 t188 t189 t190 t191 t192 t193 t194 t195 t196 t197 t198 _ A13.out).mono ?_
            rintro e w33 ⟨rfl, hb⟩
            refine ⟨_, rfl, ?_⟩
            have n0_ := Aside0.mk (blk_below (g := gb123) (o := .cells #[.string a0_0, .string a0_1, .string a0_2] 25 (0, 0)) (by (with_reducible repeat (first | refine blk_drewN ?_ _ | refine blk_drew ?_ | refine blk_alloc ?_ _)); exact BK123.out) hb)
            have n1_ := Aside0.mk (blk_below (g := gb124) (o := .cells #[.string a1_0, .string a1_1] 44 (0, 0)) (by (with_reducible repeat (first | refine blk_drewN ?_ _ | refine blk_drew ?_ | refine blk_alloc ?_ _)); exact BK124.out) hb)
            have n2_ := Aside0.mk (blk_below (g := gb125) (o := .cells #[.string a2_0, .string a2_1, .string a2_2, .int .i64 a2_3, .string a2_4] 46 (0, 0)) (by (with_reducible repeat (first | refine blk_drewN ?_ _ | refine blk_drew ?_ | refine blk_alloc ?_ _)); exact BK125.out) hb)
            have n3_ := Aside0.mk (below_step (by repeat (first | (with_reducible first | exact HB.out | apply below_alloc | apply pw_below_drewN | apply below_drew1 | refine below_set ?_ GE123.out | refine below_set ?_ GE124.out | refine below_set ?_ GE125.out) | exact HB.out)) hb)
            clear BK123
            clear BK124
            clear BK125
            clear HB
            have BK123 := n0_
            have BK124 := n1_
            have BK125 := n2_
            have HB := n3_
            clear n0_ n1_ n2_ n3_
            (try clear hb)
            (try clear hb2)
            (try clear hk)
            (try clear hi)
            refine hK.out _ _ ⟨(blk_cell BK123.out 0).trans rfl, (blk_cell BK123.out 1).trans rfl, (blk_cell BK123.out 2).trans rfl, (blk_cell BK124.out 0).trans rfl, (blk_cell BK124.out 1).trans rfl, (blk_cell BK125.out 0).trans rfl, (blk_cell BK125.out 1).trans rfl, (blk_cell BK125.out 2).trans rfl, (blk_cell BK125.out 3).trans rfl, (blk_cell BK125.out 4).trans rfl⟩ (fun hHeld => ?_)
            clear hK K
            refine norm_ (a' := ?_) ?_ ?_
            rotate_left
            · show Act.put _ (some 31) _ = _
              simp only [Act.put, List.setIfInBounds_toArray, List.set_cons_zero, List.set_cons_succ, i64_w, i32_w]
              rfl
            refine pure_ (i := 22) (N := some 32) (v := ?_) (a' := ?_) #[true, true, true, true, true, true, true, true, true, true, true, true, true, true, true, true, true, true, true, true, true, true, true, false, false, false, false, false, false, false, false, false, false, false, false, false, false, false, false, false, false] rfl rfl (any_of HT_.out (by kernel_rfl)) (fun _ _ _ h => h) (Or.inl ⟨by rfl, ?_⟩) ?_ ?_
            rotate_left
            · intro w'
              go_simp
              with_reducible rfl
            rotate_left
            · simp only [Act.put, List.setIfInBounds_toArray, List.set_cons_zero, List.set_cons_succ, i64_w, i32_w]
              rfl
            refine pure_ (i := 23) (N := some 33) (v := ?_) (a' := ?_) #[true, true, true, true, true, true, true, true, true, true, true, true, true, true, true, true, true, true, true, true, true, true, true, true, false, false, false, false, false, false, false, false, false, false, false, false, false, false, false, false, false] rfl rfl (any_of HT_.out (by kernel_rfl)) (fun _ _ _ h => h) (Or.inl ⟨by rfl, ?_⟩) ?_ ?_
            rotate_left
            · intro w'
              go_simp
              with_reducible rfl
            rotate_left
            · simp only [Act.put, List.setIfInBounds_toArray, List.set_cons_zero, List.set_cons_succ, i64_w, i32_w]
              rfl
            refine pure_ (i := 24) (N := some 34) (v := ?_) (a' := ?_) #[true, true, true, true, true, true, true, true, true, true, true, true, true, true, true, true, true, true, true, true, true, true, true, true, true, false, false, false, false, false, false, false, false, false, false, false, false, false, false, false, false] rfl rfl (any_of HT_.out (by kernel_rfl)) (fun _ _ _ h => h) (Or.inl ⟨by rfl, ?_⟩) ?_ ?_
            rotate_left
            · intro w'
              go_simp
              with_reducible rfl
            rotate_left
            · simp only [Act.put, List.setIfInBounds_toArray, List.set_cons_zero, List.set_cons_succ, i64_w, i32_w]
              rfl
            refine take_ (i := 25) (N := some 35) (v := ?_) (a' := ?_) #[true, true, true, true, true, true, true, true, true, true, true, true, true, true, true, true, true, true, true, true, true, true, true, true, true, true, false, false, false, false, false, false, false, false, false, false, false, false, false, false, false] rfl rfl (take_ofW HT_.out HW_.out (by kernel_rfl)) (fun _ _ _ h => h) (Or.inl ⟨by rfl, ?_⟩) hHeld ?_ ?_
            rotate_left
            · rintro w' ⟨s0, s1, s2, s3, s4, s5, s6, s7, s8, s9⟩
              go_simp
              with_reducible rfl
            rotate_left
            · simp only [Act.put, List.setIfInBounds_toArray, List.set_cons_zero, List.set_cons_succ, i64_w, i32_w]
              rfl
            refine take_ (i := 26) (N := some 36) (v := ?_) (a' := ?_) #[true, true, true, true, true, true, true, true, true, true, true, true, true, true, true, true, true, true, true, true, true, true, true, true, true, true, true, false, false, false, false, false, false, false, false, false, false, false, false, false, false] rfl rfl (take_ofW HT_.out HW_.out (by kernel_rfl)) (fun _ _ _ h => h) (Or.inl ⟨by rfl, ?_⟩) hHeld ?_ ?_
            rotate_left
            · rintro w' ⟨s0, s1, s2, s3, s4, s5, s6, s7, s8, s9⟩
              go_simp
              with_reducible rfl
            rotate_left
            · simp only [Act.put, List.setIfInBounds_toArray, List.set_cons_zero, List.set_cons_succ, i64_w, i32_w]
              rfl
            refine take_ (i := 28) (N := some 38) (v := ?_) (a' := ?_) #[true, true, true, true, true, true, true, true, true, true, true, true, true, true, true, true, true, true, true, true, true, true, true, true, true, true, true, false, true, false, false, false, false, false, false, false, false, false, false, false, false] rfl rfl (take_ofW HT_.out HW_.out (by kernel_rfl)) (fun _ _ _ h => h) (Or.inl ⟨by rfl, ?_⟩) hHeld ?_ ?_
            rotate_left
            · rintro w' ⟨s0, s1, s2, s3, s4, s5, s6, s7, s8, s9⟩
              go_simp
              with_reducible rfl
            rotate_left
            · simp only [Act.put, List.setIfInBounds_toArray, List.set_cons_zero, List.set_cons_succ, i64_w, i32_w]
              rfl
            refine take_ (i := 29) (N := some 39) (v := ?_) (a' := ?_) #[true, true, true, true, true, true, true, true, true, true, true, true, true, true, true, true, true, true, true, true, true, true, true, true, true, true, true, false, true, true, false, false, false, false, false, false, false, false, false, false, false] rfl rfl (take_ofW HT_.out HW_.out (by kernel_rfl)) (fun _ _ _ h => h) (Or.inl ⟨by rfl, ?_⟩) hHeld ?_ ?_
            rotate_left
            · rintro w' ⟨s0, s1, s2, s3, s4, s5, s6, s7, s8, s9⟩
              go_simp
              with_reducible rfl
            rotate_left
            · simp only [Act.put, List.setIfInBounds_toArray, List.set_cons_zero, List.set_cons_succ, i64_w, i32_w]
              rfl
            refine one_ (i := 27) (N := some 37) #[true, true, true, true, true, true, true, true, true, true, true, true, true, true, true, true, true, true, true, true, true, true, true, true, true, true, true, true, true, true, false, false, false, false, false, false, false, false, false, false, false] rfl rfl (one_of HT_.out (by kernel_rfl)) (by decide) (fun K hK => ?_)
            refine goes_ Try.func19 (by kernel_rfl) rfl #[.agg #[.string a2_0, .string a2_1, .string a2_2, .int .i64 a2_3, .string a2_4], .agg #[.string a1_0, .string a1_1]] (by rfl) rfl rfl (by (try simp only [List.map_toArray, List.map_cons, List.map_nil]); first | done | rfl | (simp only [List.length_drop, List.length_take]; rfl)) ?_
            with_reducible refine (gen_Field.calls a2_0 a2_1 a2_2 a2_3 a2_4 a1_0 a1_1 t199 t200 t201 t202 t203 t204 t205 t206 t207 t208 t209 t210 _ A15.out).mono ?_
            rintro e w34 ⟨rfl, hb⟩
            refine ⟨_, rfl, ?_⟩
            have n0_ := Aside0.mk (blk_below (g := gb123) (o := .cells #[.string a0_0, .string a0_1, .string a0_2] 25 (0, 0)) (by (with_reducible repeat (first | refine blk_drewN ?_ _ | refine blk_drew ?_ | refine blk_alloc ?_ _)); exact BK123.out) hb)
            have n1_ := Aside0.mk (blk_below (g := gb124) (o := .cells #[.string a1_0, .string a1_1] 44 (0, 0)) (by (with_reducible repeat (first | refine blk_drewN ?_ _ | refine blk_drew ?_ | refine blk_alloc ?_ _)); exact BK124.out) hb)
            have n2_ := Aside0.mk (blk_below (g := gb125) (o := .cells #[.string a2_0, .string a2_1, .string a2_2, .int .i64 a2_3, .string a2_4] 46 (0, 0)) (by (with_reducible repeat (first | refine blk_drewN ?_ _ | refine blk_drew ?_ | refine blk_alloc ?_ _)); exact BK125.out) hb)
            have n3_ := Aside0.mk (below_step (by repeat (first | (with_reducible first | exact HB.out | apply below_alloc | apply pw_below_drewN | apply below_drew1 | refine below_set ?_ GE123.out | refine below_set ?_ GE124.out | refine below_set ?_ GE125.out) | exact HB.out)) hb)
            clear BK123
            clear BK124
            clear BK125
            clear HB
            have BK123 := n0_
            have BK124 := n1_
            have BK125 := n2_
            have HB := n3_
            clear n0_ n1_ n2_ n3_
            (try clear hb)
            (try clear hb2)
            (try clear hk)
            (try clear hi)
            refine hK.out _ _ ⟨(blk_cell BK123.out 0).trans rfl, (blk_cell BK123.out 1).trans rfl, (blk_cell BK123.out 2).trans rfl, (blk_cell BK124.out 0).trans rfl, (blk_cell BK124.out 1).trans rfl, (blk_cell BK125.out 0).trans rfl, (blk_cell BK125.out 1).trans rfl, (blk_cell BK125.out 2).trans rfl, (blk_cell BK125.out 3).trans rfl, (blk_cell BK125.out 4).trans rfl⟩ (fun hHeld => ?_)
            clear hK K
            refine norm_ (a' := ?_) ?_ ?_
            rotate_left
            · show Act.put _ (some 37) _ = _
              simp only [Act.put, List.setIfInBounds_toArray, List.set_cons_zero, List.set_cons_succ, i64_w, i32_w]
              rfl
            refine one_ (i := 30) (N := some 40) #[true, true, true, true, true, true, true, true, true, true, true, true, true, true, true, true, true, true, true, true, true, true, true, true, true, true, true, true, true, true, true, false, false, false, false, false, false, false, false, false, false] rfl rfl (one_of HT_.out (by kernel_rfl)) (by decide) (fun K hK => ?_)
            refine goes_ Try.func20 (by kernel_rfl) rfl #[.agg #[.string a2_0, .string a2_1, .string a2_2, .int .i64 a2_3, .string a2_4], .agg #[.string a1_0, .string a1_1]] (by rfl) rfl rfl (by (try simp only [List.map_toArray, List.map_cons, List.map_nil]); first | done | rfl | (simp only [List.length_drop, List.length_take]; rfl)) ?_
            with_reducible refine (secateurref25_Field.calls a2_0 a2_1 a2_2 a2_3 a2_4 a1_0 a1_1 t211 t212 t213 t214 t215 t216 t217 t218 t219 t220 t221 t222 _ A16.out).mono ?_
            rintro e w35 ⟨rfl, hb⟩
            refine ⟨_, rfl, ?_⟩
            have n0_ := Aside0.mk (blk_below (g := gb123) (o := .cells #[.string a0_0, .string a0_1, .string a0_2] 25 (0, 0)) (by (with_reducible repeat (first | refine blk_drewN ?_ _ | refine blk_drew ?_ | refine blk_alloc ?_ _)); exact BK123.out) hb)
            have n1_ := Aside0.mk (blk_below (g := gb124) (o := .cells #[.string a1_0, .string a1_1] 44 (0, 0)) (by (with_reducible repeat (first | refine blk_drewN ?_ _ | refine blk_drew ?_ | refine blk_alloc ?_ _)); exact BK124.out) hb)
            have n2_ := Aside0.mk (blk_below (g := gb125) (o := .cells #[.string a2_0, .string a2_1, .string a2_2, .int .i64 a2_3, .string a2_4] 46 (0, 0)) (by (with_reducible repeat (first | refine blk_drewN ?_ _ | refine blk_drew ?_ | refine blk_alloc ?_ _)); exact BK125.out) hb)
            have n3_ := Aside0.mk (below_step (by repeat (first | (with_reducible first | exact HB.out | apply below_alloc | apply pw_below_drewN | apply below_drew1 | refine below_set ?_ GE123.out | refine below_set ?_ GE124.out | refine below_set ?_ GE125.out) | exact HB.out)) hb)
            clear BK123
            clear BK124
            clear BK125
            clear HB
            have BK123 := n0_
            have BK124 := n1_
            have BK125 := n2_
            have HB := n3_
            clear n0_ n1_ n2_ n3_
            (try clear hb)
            (try clear hb2)
            (try clear hk)
            (try clear hi)
            refine hK.out _ _ ⟨(blk_cell BK123.out 0).trans rfl, (blk_cell BK123.out 1).trans rfl, (blk_cell BK123.out 2).trans rfl, (blk_cell BK124.out 0).trans rfl, (blk_cell BK124.out 1).trans rfl, (blk_cell BK125.out 0).trans rfl, (blk_cell BK125.out 1).trans rfl, (blk_cell BK125.out 2).trans rfl, (blk_cell BK125.out 3).trans rfl, (blk_cell BK125.out 4).trans rfl⟩ (fun hHeld => ?_)
            clear hK K
            refine norm_ (a' := ?_) ?_ ?_
            rotate_left
            · show Act.put _ (some 40) _ = _
              simp only [Act.put, List.setIfInBounds_toArray, List.set_cons_zero, List.set_cons_succ, i64_w, i32_w]
              rfl
            refine pure_ (i := 31) (N := some 41) (v := ?_) (a' := ?_) #[true, true, true, true, true, true, true, true, true, true, true, true, true, true, true, true, true, true, true, true, true, true, true, true, true, true, true, true, true, true, true, true, false, false, false, false, false, false, false, false, false] rfl rfl (any_of HT_.out (by kernel_rfl)) (fun _ _ _ h => h) (Or.inl ⟨by rfl, ?_⟩) ?_ ?_
            rotate_left
            · intro w'
              go_simp
              with_reducible rfl
            rotate_left
            · simp only [Act.put, List.setIfInBounds_toArray, List.set_cons_zero, List.set_cons_succ, i64_w, i32_w]
              rfl
            refine pure_ (i := 32) (N := some 42) (v := ?_) (a' := ?_) #[true, true, true, true, true, true, true, true, true, true, true, true, true, true, true, true, true, true, true, true, true, true, true, true, true, true, true, true, true, true, true, true, true, false, false, false, false, false, false, false, false] rfl rfl (any_of HT_.out (by kernel_rfl)) (fun _ _ _ h => h) (Or.inl ⟨by rfl, ?_⟩) ?_ ?_
            rotate_left
            · intro w'
              go_simp
              with_reducible rfl
            rotate_left
            · simp only [Act.put, List.setIfInBounds_toArray, List.set_cons_zero, List.set_cons_succ, i64_w, i32_w]
              rfl
            refine pure_ (i := 33) (N := some 43) (v := ?_) (a' := ?_) #[true, true, true, true, true, true, true, true, true, true, true, true, true, true, true, true, true, true, true, true, true, true, true, true, true, true, true, true, true, true, true, true, true, true, false, false, false, false, false, false, false] rfl rfl (any_of HT_.out (by kernel_rfl)) (fun _ _ _ h => h) (Or.inl ⟨by rfl, ?_⟩) ?_ ?_
            rotate_left
            · intro w'
              go_simp
              with_reducible rfl
            rotate_left
            · simp only [Act.put, List.setIfInBounds_toArray, List.set_cons_zero, List.set_cons_succ, i64_w, i32_w]
              rfl
            refine take_ (i := 34) (N := some 44) (v := ?_) (a' := ?_) #[true, true, true, true, true, true, true, true, true, true, true, true, true, true, true, true, true, true, true, true, true, true, true, true, true, true, true, true, true, true, true, true, true, true, true, false, false, false, false, false, false] rfl rfl (take_ofW HT_.out HW_.out (by kernel_rfl)) (fun _ _ _ h => h) (Or.inl ⟨by rfl, ?_⟩) hHeld ?_ ?_
            rotate_left
            · rintro w' ⟨s0, s1, s2, s3, s4, s5, s6, s7, s8, s9⟩
              go_simp
              with_reducible rfl
            rotate_left
            · simp only [Act.put, List.setIfInBounds_toArray, List.set_cons_zero, List.set_cons_succ, i64_w, i32_w]
              rfl
            refine take_ (i := 36) (N := some 46) (v := ?_) (a' := ?_) #[true, true, true, true, true, true, true, true, true, true, true, true, true, true, true, true, true, true, true, true, true, true, true, true, true, true, true, true, true, true, true, true, true, true, true, false, true, false, false, false, false] rfl rfl (take_ofW HT_.out HW_.out (by kernel_rfl)) (fun _ _ _ h => h) (Or.inl ⟨by rfl, ?_⟩) hHeld ?_ ?_
            rotate_left
            · rintro w' ⟨s0, s1, s2, s3, s4, s5, s6, s7, s8, s9⟩
              go_simp
              with_reducible rfl
            rotate_left
            · simp only [Act.put, List.setIfInBounds_toArray, List.set_cons_zero, List.set_cons_succ, i64_w, i32_w]
              rfl
            refine one_ (i := 35) (N := some 45) #[true, true, true, true, true, true, true, true, true, true, true, true, true, true, true, true, true, true, true, true, true, true, true, true, true, true, true, true, true, true, true, true, true, true, true, true, true, false, false, false, false] rfl rfl (one_of HT_.out (by kernel_rfl)) (by decide) (fun K hK => ?_)
            refine goes_ Try.func21 (by kernel_rfl) rfl #[.agg #[.string a2_0, .string a2_1, .string a2_2, .int .i64 a2_3, .string a2_4]] (by rfl) rfl rfl (by (try simp only [List.map_toArray, List.map_cons, List.map_nil]); first | done | rfl | (simp only [List.length_drop, List.length_take]; rfl)) ?_
            with_reducible refine (gen_Element.calls a2_0 a2_1 a2_2 a2_3 a2_4 t223 t224 t225 t226 t227 t228 t229 t230 t231 t232 t233 t234 _ A18.out).mono ?_
            rintro e w36 ⟨rfl, hb⟩
            refine ⟨_, rfl, ?_⟩
            have n0_ := Aside0.mk (blk_below (g := gb123) (o := .cells #[.string a0_0, .string a0_1, .string a0_2] 25 (0, 0)) (by (with_reducible repeat (first | refine blk_drewN ?_ _ | refine blk_drew ?_ | refine blk_alloc ?_ _)); exact BK123.out) hb)
            have n1_ := Aside0.mk (blk_below (g := gb124) (o := .cells #[.string a1_0, .string a1_1] 44 (0, 0)) (by (with_reducible repeat (first | refine blk_drewN ?_ _ | refine blk_drew ?_ | refine blk_alloc ?_ _)); exact BK124.out) hb)
            have n2_ := Aside0.mk (blk_below (g := gb125) (o := .cells #[.string a2_0, .string a2_1, .string a2_2, .int .i64 a2_3, .string a2_4] 46 (0, 0)) (by (with_reducible repeat (first | refine blk_drewN ?_ _ | refine blk_drew ?_ | refine blk_alloc ?_ _)); exact BK125.out) hb)
            have n3_ := Aside0.mk (below_step (by repeat (first | (with_reducible first | exact HB.out | apply below_alloc | apply pw_below_drewN | apply below_drew1 | refine below_set ?_ GE123.out | refine below_set ?_ GE124.out | refine below_set ?_ GE125.out) | exact HB.out)) hb)
            clear BK123
            clear BK124
            clear BK125
            clear HB
            have BK123 := n0_
            have BK124 := n1_
            have BK125 := n2_
            have HB := n3_
            clear n0_ n1_ n2_ n3_
            (try clear hb)
            (try clear hb2)
            (try clear hk)
            (try clear hi)
            refine hK.out _ _ ⟨(blk_cell BK123.out 0).trans rfl, (blk_cell BK123.out 1).trans rfl, (blk_cell BK123.out 2).trans rfl, (blk_cell BK124.out 0).trans rfl, (blk_cell BK124.out 1).trans rfl, (blk_cell BK125.out 0).trans rfl, (blk_cell BK125.out 1).trans rfl, (blk_cell BK125.out 2).trans rfl, (blk_cell BK125.out 3).trans rfl, (blk_cell BK125.out 4).trans rfl⟩ (fun hHeld => ?_)
            clear hK K
            refine norm_ (a' := ?_) ?_ ?_
            rotate_left
            · show Act.put _ (some 45) _ = _
              simp only [Act.put, List.setIfInBounds_toArray, List.set_cons_zero, List.set_cons_succ, i64_w, i32_w]
              rfl
            refine one_ (i := 37) (N := some 47) #[true, true, true, true, true, true, true, true, true, true, true, true, true, true, true, true, true, true, true, true, true, true, true, true, true, true, true, true, true, true, true, true, true, true, true, true, true, true, false, false, false] rfl rfl (one_of HT_.out (by kernel_rfl)) (by decide) (fun K hK => ?_)
            refine goes_ Try.func22 (by kernel_rfl) rfl #[.agg #[.string a2_0, .string a2_1, .string a2_2, .int .i64 a2_3, .string a2_4]] (by rfl) rfl rfl (by (try simp only [List.map_toArray, List.map_cons, List.map_nil]); first | done | rfl | (simp only [List.length_drop, List.length_take]; rfl)) ?_
            with_reducible refine (secateurref25_Element.calls a2_0 a2_1 a2_2 a2_3 a2_4 t235 t236 t237 t238 t239 t240 t241 t242 t243 t244 t245 t246 _ A19.out).mono ?_
            rintro e w37 ⟨rfl, hb⟩
            refine ⟨_, rfl, ?_⟩
            have n0_ := Aside0.mk (blk_below (g := gb123) (o := .cells #[.string a0_0, .string a0_1, .string a0_2] 25 (0, 0)) (by (with_reducible repeat (first | refine blk_drewN ?_ _ | refine blk_drew ?_ | refine blk_alloc ?_ _)); exact BK123.out) hb)
            have n1_ := Aside0.mk (blk_below (g := gb124) (o := .cells #[.string a1_0, .string a1_1] 44 (0, 0)) (by (with_reducible repeat (first | refine blk_drewN ?_ _ | refine blk_drew ?_ | refine blk_alloc ?_ _)); exact BK124.out) hb)
            have n2_ := Aside0.mk (blk_below (g := gb125) (o := .cells #[.string a2_0, .string a2_1, .string a2_2, .int .i64 a2_3, .string a2_4] 46 (0, 0)) (by (with_reducible repeat (first | refine blk_drewN ?_ _ | refine blk_drew ?_ | refine blk_alloc ?_ _)); exact BK125.out) hb)
            have n3_ := Aside0.mk (below_step (by repeat (first | (with_reducible first | exact HB.out | apply below_alloc | apply pw_below_drewN | apply below_drew1 | refine below_set ?_ GE123.out | refine below_set ?_ GE124.out | refine below_set ?_ GE125.out) | exact HB.out)) hb)
            clear BK123
            clear BK124
            clear BK125
            clear HB
            have BK123 := n0_
            have BK124 := n1_
            have BK125 := n2_
            have HB := n3_
            clear n0_ n1_ n2_ n3_
            (try clear hb)
            (try clear hb2)
            (try clear hk)
            (try clear hi)
            refine hK.out _ _ ⟨(blk_cell BK123.out 0).trans rfl, (blk_cell BK123.out 1).trans rfl, (blk_cell BK123.out 2).trans rfl, (blk_cell BK124.out 0).trans rfl, (blk_cell BK124.out 1).trans rfl, (blk_cell BK125.out 0).trans rfl, (blk_cell BK125.out 1).trans rfl, (blk_cell BK125.out 2).trans rfl, (blk_cell BK125.out 3).trans rfl, (blk_cell BK125.out 4).trans rfl⟩ (fun hHeld => ?_)
            clear hK K
            refine norm_ (a' := ?_) ?_ ?_
            rotate_left
            · show Act.put _ (some 47) _ = _
              simp only [Act.put, List.setIfInBounds_toArray, List.set_cons_zero, List.set_cons_succ, i64_w, i32_w]
              rfl
            refine pure_ (i := 38) (N := some 48) (v := ?_) (a' := ?_) #[true, true, true, true, true, true, true, true, true, true, true, true, true, true, true, true, true, true, true, true, true, true, true, true, true, true, true, true, true, true, true, true, true, true, true, true, true, true, true, false, false] rfl rfl (any_of HT_.out (by kernel_rfl)) (fun _ _ _ h => h) (Or.inl ⟨by rfl, ?_⟩) ?_ ?_
            rotate_left
            · intro w'
              go_simp
              with_reducible rfl
            rotate_left
            · simp only [Act.put, List.setIfInBounds_toArray, List.set_cons_zero, List.set_cons_succ, i64_w, i32_w]
              rfl
            refine pure_ (i := 39) (N := some 49) (v := ?_) (a' := ?_) #[true, true, true, true, true, true, true, true, true, true, true, true, true, true, true, true, true, true, true, true, true, true, true, true, true, true, true, true, true, true, true, true, true, true, true, true, true, true, true, true, false] rfl rfl (any_of HT_.out (by kernel_rfl)) (fun _ _ _ h => h) (Or.inl ⟨by rfl, ?_⟩) ?_ ?_
            rotate_left
            · intro w'
              go_simp
              with_reducible rfl
            rotate_left
            · simp only [Act.put, List.setIfInBounds_toArray, List.set_cons_zero, List.set_cons_succ, i64_w, i32_w]
              rfl
            refine pure_ (i := 40) (N := some 6) (v := ?_) (a' := ?_) #[true, true, true, true, true, true, true, true, true, true, true, true, true, true, true, true, true, true, true, true, true, true, true, true, true, true, true, true, true, true, true, true, true, true, true, true, true, true, true, true, true] rfl rfl (any_of HT_.out (by kernel_rfl)) (fun _ _ _ h => h) (Or.inl ⟨by rfl, ?_⟩) ?_ ?_
            rotate_left
            · intro w'
              go_simp
              with_reducible rfl
            rotate_left
            · simp only [Act.put, List.setIfInBounds_toArray, List.set_cons_zero, List.set_cons_succ, i64_w, i32_w]
              rfl
            refine done_ (done_of HT_.out (by kernel_rfl)) ?_
            try go_wp2
            go_ret
            exact ⟨by first | rfl | (simp [errW_none, errW_some] <;> rfl) | (simp [*, errW_none, errW_some] <;> rfl), by repeat (first | (with_reducible first | exact HB.out | apply below_alloc | apply pw_below_drewN | apply below_drew1 | refine below_set ?_ GE123.out | refine below_set ?_ GE124.out | refine below_set ?_ GE125.out) | exact HB.out)⟩
          · rw [if_neg c17] at H
            exact absurd ((Option.some.inj H).trans HRT.out) (by decide)
        · rw [if_neg c14] at H
          exact absurd ((Option.some.inj H).trans HRT.out) (by decide)
      · rw [if_neg c11] at H
        exact absurd ((Option.some.inj H).trans HRT.out) (by decide)
    · rw [if_neg c8] at H
      exact absurd ((Option.some.inj H).trans HRT.out) (by decide)
  · replace c5 := Bool.eq_false_iff.mpr c5
    subst c5
    have H1 : (some false) = some r := by rw [if_neg (show ¬ (false = true) by decide)] at H; exact H
    exact absurd ((Option.some.inj H1).trans HRT.out) (by decide)
end Go.Proofs.Ytfplcohjnlbfjaa.PGenPlaces
end

section
namespace Go.Proofs.Ytfplcohjnlbfjaa.PGenPlaces
open Go.RowKit Go.Proofs.YtfplcohjnlbfjaaW.PrintWords Go.Proofs.YtfplcohjnlbfjaaW.PrintLast Go.Proofs.YtfplcohjnlbfjaaW.PrintMore Go.Proofs.Ytfplcohjnlbfjaa.Hand
attribute [local go_sem] max2_int min2_int max_two min_two max_three min_three max_four min_four   -- for this text's walks alone
set_option linter.unusedVariables false
set_option linter.unusedSimpArgs false
end Go.Proofs.Ytfplcohjnlbfjaa.PGenPlaces
end

section
namespace Go.Proofs.Ytfplcohjnlbfjaa.Pure
open Go.RowKit Go.Proofs.Ytfplcohjnlbfjaa.PGenPlaces Go.Proofs.Ytfplcohjnlbfjaa.Hand Go.Proofs.YtfplcohjnlbfjaaW.PrintWords Go.Proofs.YtfplcohjnlbfjaaW.PrintLast
theorem genPlaces (a0_0 a0_1 a0_2 a1_0 a1_1 a2_0 a2_1 a2_2 : ByteArray) (a2_3 : Int) (a2_4 : ByteArray) : secateurlaw25_GenPlaces.f a0_0 a0_1 a0_2 a1_0 a1_1 a2_0 a2_1 a2_2 a2_3 a2_4 = some true := by
  simp [secateurlaw25_GenPlaces.f, secateurlaw25_live.f, gen_Reg.f, secateurref25_Reg.f, gen_Ret.f, secateurref25_Ret.f, gen_Static.f, secateurref25_Static.f, gen_Field.f, secateurref25_Field.f, gen_Element.f, secateurref25_Element.f]
end Go.Proofs.Ytfplcohjnlbfjaa.Pure
end

section
namespace Go.Proofs.Ytfplcohjnlbfjaa.Hand
open Go.ChangeShapes Go.WideShapes Go.ChangeAt Go.RowKit Go.Proofs.YtfplcohjnlbfjaaW.PrintWords Go.Proofs.YtfplcohjnlbfjaaW.PrintLast Go.Proofs.YtfplcohjnlbfjaaW.PrintMore
section
variable {H : Type} {enc : TypeId × Value → H} {P : Program} {w : World} {base : Nat} {spare : Nat → Bool} {held : Bool}
end
end Go.Proofs.Ytfplcohjnlbfjaa.Hand
end

section
namespace Go.Proofs.Ytfplcohjnlbfjaa.Hand
open Go.ChangeShapes Go.WideShapes Go.ChangeAt Go.Joins Go.Deep Go.RowKit Go.Proofs.YtfplcohjnlbfjaaW.PrintWords Go.Proofs.YtfplcohjnlbfjaaW.PrintLast Go.Proofs.YtfplcohjnlbfjaaW.PrintMore
set_option linter.unusedVariables false
namespace Op
section
variable {H : Type} {enc : TypeId × Value → H} {P : Program} {w : World} {base : Nat} {spare : Nat → Bool} {held : Bool}
def Opens (enc : TypeId × Value → H) (P : Program) (w : World) (base : Nat) (spare : Nat → Bool) (held : Bool) {α : Type} (kd : Kd α) (Q : α → Prop) (t : TypeId) : Prop :=
  ∀ (n : Nat) (cs : List Value) (x : DataW H × List MemPlace), DataW.trod enc P w base spare held n t cs = some x → (∀ m ∈ x.1.weights P t, m ≤ reachBytes) → ∃ a, kd.K w a cs ∧ Q a
theorem opens_str {t : TypeId} (ht : P.underlying t = some .string) : Opens enc P w base spare held Kd.string (fun s => s.size ≤ 140737488351232) t := by
  intro n cs x h hw
  obtain ⟨s, rfl, rfl, _⟩ := DataW.trod_string ht h
  have h2 := hw s.data.toList.length (by simp [DataW.weights])
  rw [Array.length_toList] at h2
  exact ⟨s, rfl, h2⟩
theorem opens_int {k : IntKind} {t : TypeId} (ht : P.underlying t = some (.int k)) : Opens enc P w base spare held (Kd.int k) (fun i => (Lit.int k i).wf = true) t := by
  intro n cs x h hw
  obtain ⟨i, rfl, rfl, hwf⟩ := DataW.trod_int ht h
  exact ⟨i, rfl, hwf⟩
def Fields (enc : TypeId × Value → H) (P : Program) (w : World) (base : Nat) (spare : Nat → Bool) (held : Bool) {α : Type} (kd : Kd α) (Q : α → Prop) (fs : List Field) (o : Nat) : Prop :=
  ∀ (n : Nat) (cs : List Value) (xs : List (DataW H × List MemPlace)), cs.length = o + kd.sz → xs.length = fs.length →
    (∀ (i : Nat) (f : Field), fs[i]? = some f → DataW.trod enc P w base spare held n f.type ((cs.drop f.offset).take (P.cellsOf f.type)) = xs[i]?) →
    (∀ (i : Nat) (f : Field) (x : DataW H × List MemPlace), fs[i]? = some f → xs[i]? = some x → ∀ m ∈ x.1.weights P f.type, m ≤ reachBytes) → ∃ a, kd.K w a (cs.drop o) ∧ Q a
theorem fields_one {α : Type} {kd : Kd α} {Q : α → Prop} {f : Field} {o : Nat} (hoff : f.offset = o) (hc : P.cellsOf f.type = kd.sz) (ho : Opens enc P w base spare held kd Q f.type) : Fields enc P w base spare held kd Q [f] o := by
  intro n cs xs hl hx hf hw
  match xs, hx with
  | [y], _ =>
    have h := hf 0 f rfl
    rw [hoff, hc, List.take_of_length_le (by rw [List.length_drop]; omega)] at h
    exact ho _ _ _ h (hw 0 f y rfl rfl)
theorem fields_cons {α β : Type} {k1 : Kd α} {k2 : Kd β} {Q1 : α → Prop} {Q2 : β → Prop} {f : Field} {fs : List Field} {o : Nat} (hoff : f.offset = o) (hc : P.cellsOf f.type = k1.sz) (ho : Opens enc P w base spare held k1 Q1 f.type)
    (h2 : Fields enc P w base spare held k2 Q2 fs (o + k1.sz)) : Fields enc P w base spare held (Kd.pair k1 k2) (fun p => Q1 p.1 ∧ Q2 p.2) (f :: fs) o := by
  intro n cs xs hl hx hf hw
  have hl' : cs.length = o + (k1.sz + k2.sz) := hl
  match xs, hx with
  | y :: ys, hx =>
    have h := hf 0 f rfl
    rw [hoff, hc] at h
    obtain ⟨a, ha, qa⟩ := ho _ _ _ h (hw 0 f y rfl rfl)
    obtain ⟨b, hb, qb⟩ := h2 n cs ys (by omega) (by simpa using hx) (fun i g hg => by have := hf (i + 1) g (by simpa using hg); simpa using this) (fun i g x hg hx => hw (i + 1) g x (by simpa using hg) (by simpa using hx))
    refine ⟨(a, b), ⟨(cs.drop o).take k1.sz, cs.drop (o + k1.sz), ?_, ha, hb⟩, qa, qb⟩
    rw [← List.drop_drop, List.take_append_drop]
theorem weights_fields : ∀ {fs : List Field} {xs : List (DataW H × List MemPlace)} {i : Nat} {f : Field} {x : DataW H × List MemPlace}, fs[i]? = some f → xs[i]? = some x → ∀ m ∈ x.1.weights P f.type, m ∈ DataW.weightsEach P (fs.map (·.type)) (xs.map (·.1))
  | [], _, i, f, x, hf, _, _, _ => by simp at hf
  | _ :: _, [], i, f, x, _, hx, _, _ => by simp at hx
  | g :: fs, y :: ys, 0, f, x, hf, hx, m, hm => by
    simp at hf hx
    subst hf hx
    simp only [List.map_cons, DataW.weightsEach, List.mem_append]
    exact .inl hm
  | g :: fs, y :: ys, i + 1, f, x, hf, hx, m, hm => by
    simp only [List.map_cons, DataW.weightsEach, List.mem_append]
    exact .inr (weights_fields (fs := fs) (xs := ys) (i := i) (by simpa using hf) (by simpa using hx) m hm)
theorem opens_struct {α : Type} {kd : Kd α} {Q : α → Prop} {t : TypeId} {fs : Array Field} (ht : P.underlying t = some (.struct fs)) (hc : P.cellsOf t = kd.sz) (hf : Fields enc P w base spare held kd Q fs.toList 0) : Opens enc P w base spare held kd Q t := by
  intro fuel cs x h hw
  obtain ⟨xs, m, _, rfl, hl, hlen, hi⟩ := DataW.trod_struct ht h
  obtain ⟨a, ha, hq⟩ := hf m cs xs (by omega) (by simpa using hlen) (fun i f hf => hi i f (by simpa using hf)) (fun i f x hf hx n hn => hw n (by
    simp only [DataW.weights, ht]
    exact weights_fields hf hx n hn))
  exact ⟨a, by simpa using ha, hq⟩
theorem opens_mono {α : Type} {kd : Kd α} {Q Q' : α → Prop} {t : TypeId} (ho : Opens enc P w base spare held kd Q t) (h : ∀ a, Q a → Q' a) : Opens enc P w base spare held kd Q' t := by
  intro n cs x hx hw
  obtain ⟨a, ha, hq⟩ := ho n cs x hx hw
  exact ⟨a, ha, h a hq⟩
theorem open_agg {α : Type} {kd : Kd α} {Q : α → Prop} {t : TypeId} {fs : Array Field} {r : Reach} {b0 : Nat} {v : Value} {d : DataW H} {ps : List MemPlace} (ht : P.underlying t = some (.struct fs)) (ho : Opens enc P w base spare held kd Q t)
    (hw : ∀ n ∈ d.weights P t, n ≤ reachBytes) (hval : Value.okWide P w r b0 t v) (hd : DataW.Trod enc P w base spare held t v d ps) : ∃ a cs, v = .agg ⟨cs⟩ ∧ kd.K w a cs ∧ Q a := by
  obtain ⟨⟨cs⟩, rfl, _⟩ := okWide_struct ht hval
  obtain ⟨fuel, hf⟩ := hd
  obtain ⟨a, ha, hq⟩ := ho _ _ _ hf hw
  exact ⟨a, cs, rfl, ha, hq⟩
end
end Op
end Go.Proofs.Ytfplcohjnlbfjaa.Hand
end

section
namespace Go.Proofs.Ytfplcohjnlbfjaa.Hand
open Go.ChangeShapes Go.WideShapes Go.ChangeAt Go.Joins Go.Deep Go.RowKit Go.Proofs.YtfplcohjnlbfjaaW.PrintWords Go.Proofs.YtfplcohjnlbfjaaW.PrintLast Go.Proofs.YtfplcohjnlbfjaaW.PrintMore
set_option linter.unusedVariables false
set_option maxRecDepth 20000
namespace Op
section
variable {H : Type} {enc : TypeId × Value → H} {w : World} {base : Nat} {spare : Nat → Bool} {held : Bool}
theorem opens_mref : Opens enc Try.prog w base spare held (Kd.pair Kd.string (Kd.pair Kd.string Kd.string)) (fun p => p.1.size ≤ 140737488351232 ∧ p.2.1.size ≤ 140737488351232 ∧ p.2.2.size ≤ 140737488351232) 25 :=
  opens_mono (opens_struct Try.underlying25 (by kernel_rfl) (fields_cons rfl (by kernel_rfl) (opens_str Try.underlying9) (fields_cons rfl (by kernel_rfl) (opens_str Try.underlying9) (fields_one rfl (by kernel_rfl) (opens_str Try.underlying9))))) (fun a h => h)
end
end Op
section
variable {H : Type} {enc : TypeId × Value → H} {P : Program} {w : World} {base : Nat} {spare : Nat → Bool} {held : Bool}
end
end Go.Proofs.Ytfplcohjnlbfjaa.Hand
end

section
namespace Go.Proofs.Ytfplcohjnlbfjaa.Hand
open Go.ChangeShapes Go.WideShapes Go.ChangeAt Go.Joins Go.Deep Go.RowKit Go.Proofs.YtfplcohjnlbfjaaW.PrintWords Go.Proofs.YtfplcohjnlbfjaaW.PrintLast Go.Proofs.YtfplcohjnlbfjaaW.PrintMore
set_option linter.unusedVariables false
set_option maxRecDepth 20000
namespace Op
section
variable {H : Type} {enc : TypeId × Value → H} {w : World} {base : Nat} {spare : Nat → Bool} {held : Bool}
def QFref (p : ByteArray × ByteArray) : Prop := p.1.size ≤ 140737488351232 ∧ p.2.size ≤ 140737488351232
def QMref (p : ByteArray × ByteArray × ByteArray) : Prop := p.1.size ≤ 140737488351232 ∧ p.2.1.size ≤ 140737488351232 ∧ p.2.2.size ≤ 140737488351232
def QSite (p : (ByteArray × ByteArray × ByteArray) × Int × ByteArray) : Prop := QMref p.1 ∧ (Lit.int .i64 p.2.1).wf = true ∧ p.2.2.size ≤ 140737488351232
theorem opens_fref : Opens enc Try.prog w base spare held (Kd.pair Kd.string Kd.string) QFref 44 :=
  opens_mono (opens_struct Try.underlying44 (by kernel_rfl) (fields_cons rfl (by kernel_rfl) (opens_str Try.underlying9) (fields_one rfl (by kernel_rfl) (opens_str Try.underlying9)))) (fun a h => h)
theorem opens_site : Opens enc Try.prog w base spare held (Kd.pair (Kd.pair Kd.string (Kd.pair Kd.string Kd.string)) (Kd.pair (Kd.int .i64) Kd.string)) QSite 46 :=
  opens_mono (opens_struct Try.underlying46 (by kernel_rfl) (fields_cons rfl (by kernel_rfl) opens_mref (fields_cons rfl (by kernel_rfl) (opens_int Try.underlying3) (fields_one rfl (by kernel_rfl) (opens_str Try.underlying9))))) (fun a h => h)
theorem open_mref {r : Reach} {b0 : Nat} {v : Value} {d : DataW H} {ps : List MemPlace} (hw : ∀ n ∈ d.weights Try.prog 25, n ≤ reachBytes) (hval : Value.okWide Try.prog w r b0 25 v) (hd : DataW.Trod enc Try.prog w base spare held 25 v d ps) :
    ∃ a b c : ByteArray, v = .agg #[.string a, .string b, .string c] ∧ a.size ≤ 140737488351232 ∧ b.size ≤ 140737488351232 ∧ c.size ≤ 140737488351232 := by
  obtain ⟨⟨a, b, c⟩, cs, rfl, hK, hq⟩ := open_agg Try.underlying25 opens_mref hw hval hd
  obtain ⟨_, _, rfl, rfl, _, _, rfl, rfl, rfl⟩ := hK
  exact ⟨a, b, c, rfl, hq.1, hq.2.1, hq.2.2⟩
theorem open_fref {r : Reach} {b0 : Nat} {v : Value} {d : DataW H} {ps : List MemPlace} (hw : ∀ n ∈ d.weights Try.prog 44, n ≤ reachBytes) (hval : Value.okWide Try.prog w r b0 44 v) (hd : DataW.Trod enc Try.prog w base spare held 44 v d ps) :
    ∃ a b : ByteArray, v = .agg #[.string a, .string b] ∧ a.size ≤ 140737488351232 ∧ b.size ≤ 140737488351232 := by
  obtain ⟨⟨a, b⟩, cs, rfl, hK, hq⟩ := open_agg Try.underlying44 opens_fref hw hval hd
  obtain ⟨_, _, rfl, rfl, rfl⟩ := hK
  exact ⟨a, b, rfl, hq.1, hq.2⟩
theorem open_site {r : Reach} {b0 : Nat} {v : Value} {d : DataW H} {ps : List MemPlace} (hw : ∀ n ∈ d.weights Try.prog 46, n ≤ reachBytes) (hval : Value.okWide Try.prog w r b0 46 v) (hd : DataW.Trod enc Try.prog w base spare held 46 v d ps) :
    ∃ (a b c : ByteArray) (i : Int) (s : ByteArray), v = .agg #[.string a, .string b, .string c, .int .i64 i, .string s] ∧ (a.size ≤ 140737488351232 ∧ b.size ≤ 140737488351232 ∧ c.size ≤ 140737488351232) ∧ (Lit.int .i64 i).wf = true ∧ s.size ≤ 140737488351232 := by
  obtain ⟨⟨⟨a, b, c⟩, i, s⟩, cs, rfl, hK, hq⟩ := open_agg Try.underlying46 opens_site hw hval hd
  obtain ⟨_, _, rfl, ⟨_, _, rfl, rfl, _, _, rfl, rfl, rfl⟩, _, _, rfl, rfl, rfl⟩ := hK
  exact ⟨a, b, c, i, s, rfl, hq.1, hq.2.1, hq.2.2⟩
end
end Op
end Go.Proofs.Ytfplcohjnlbfjaa.Hand
end
