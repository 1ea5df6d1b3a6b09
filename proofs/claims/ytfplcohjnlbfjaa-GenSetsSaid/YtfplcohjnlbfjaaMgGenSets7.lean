import Derived.Test.YtfplcohjnlbfjaaMgGenSets1
import Derived.Test.YtfplcohjnlbfjaaMgGenSets6
import Derived.Test.YtfplcohjnlbfjaaMgGenSets4
import Derived.Test.YtfplcohjnlbfjaaRows
import Derived.OpenShut
import Derived.SliceStrings
import Derived.ProofKit
import Derived.Test.YtfplcohjnlbfjaaMgGenSets0
import Derived.ChangeSame
import Derived.Lib.SmallJoins
import Derived.SizedLaws
set_option linter.unusedVariables false
set_option linter.unusedSimpArgs false
set_option maxHeartbeats 64000000
set_option maxRecDepth 100000
section
namespace Go.Proofs.Ytfplcohjnlbfjaa.Q54
open Go.RowKit Go.Proofs.YtfplcohjnlbfjaaW
open PrintWords PrintLast PrintMore Go.Proofs.Ytfplcohjnlbfjaa.Hand
attribute [local go_sem] max2_int min2_int max_two min_two max_three min_three max_four min_four
mutual
def sr25_Known.j0 : Nat → Int → Bool → Bool → Bool → Int → Bool → Int → Int → Int → Int → Int → ByteArray → ByteArray → ByteArray → List Int → Int → ByteArray → ByteArray → Int → ByteArray → Bool → Option (Int × Bool)
  | 0,_,_,_,_,_,_,_,_,_,_,_,_,_,_,_,_,_,_,_,_,_ => none
  | k + 1,x6,x7,x12,x16,x58,x59,x129000,x129001,x129002,x129003,x129004,x129005,x129006,x129007,x129008,x138000,x138001,x148000,x148001,x148002,x148003 => if x59 = true then (some (x6,x7)) else (if x58 = 15 then (sr25_Known.j1 k x6 x7 x12 x16 x58 (x58 == 15) x129000 x129001 x129002 x129003 x129004 x129005 x129006 x129007 x129008 x138000 x138001 x148000 x148001 x148002 x148003) else (sr25_Known.j1 k x6 x7 x12 x16 x58 (x58 == 17) x129000 x129001 x129002 x129003 x129004 x129005 x129006 x129007 x129008 x138000 x138001 x148000 x148001 x148002 x148003))
def sr25_Known.j1 : Nat → Int → Bool → Bool → Bool → Int → Bool → Int → Int → Int → Int → Int → ByteArray → ByteArray → ByteArray → List Int → Int → ByteArray → ByteArray → Int → ByteArray → Bool → Option (Int × Bool)
  | 0,_,_,_,_,_,_,_,_,_,_,_,_,_,_,_,_,_,_,_,_,_ => none
  | k + 1,x6,x7,x12,x16,x58,x69,x129000,x129001,x129002,x129003,x129004,x129005,x129006,x129007,x129008,x138000,x138001,x148000,x148001,x148002,x148003 => if x69 = true then (if x7 = true then (if x12 = true then ((sr06_IsRef.f x148001 x148002).bind fun t153 => (some (x6,t153))) else (some (x6,false))) else (some (x6,false))) else (if x58 = 19 then (if x7 = true then (if x16 = true then ((sr06_IsRef.f x138000 x138001).bind fun t154 => (some (x6,t154))) else (some (x6,false))) else (some (x6,false))) else (if x58 = 20 then (if x7 = true then (if (x129008.length : Int) > 0 then ((sr06_IsRef.f x138000 x138001).bind fun t155 => (some (x6,t155))) else (some (x6,false))) else (some (x6,false))) else (if x58 = 21 then (if x7 = true then (if (x129008.length : Int) > 0 then ((sr06_IsRef.f x138000 x138001).bind fun t156 => (some (x6,t156))) else (some (x6,false))) else (some (x6,false))) else (some (0,false)))))
end
def sr25_Known.f (k : Nat) (l0_0 : List (S33)) (l0_1 : List ByteArray) (a0_2 : ByteArray) (a0_3 : ByteArray) (a0_4 : ByteArray) (a1_0 : Int) (a1_1 : Int) (a1_2 : Int) (a1_3 : Int) (a1_4 : Int) (a1_5 : ByteArray) (a1_6 : ByteArray) (a1_7 : ByteArray) (l1_8 : List Int) : Option (Int × Bool) := (sr07_Sets.f k a1_0 a1_1 a1_2 a1_3 a1_4 a1_5 a1_6 a1_7 l1_8).bind fun bt129 => ((sr06_Split.f a1_7).bind fun bt131 => ((sr12_Field.f k l0_0 l0_1 a0_2 a0_3 a0_4 a1_5 a1_6).bind fun bt138 => ((sr12_FieldOf.f l0_0 l0_1 a0_2 a0_3 a0_4 bt138.1 bt138.2.1).bind fun bt142 => ((sr12_Static.f l0_0 l0_1 a0_2 a0_3 a0_4 a1_5 a1_6 a1_7).bind fun bt148 => (if a1_0 = 4 then (sr25_Known.j0 k bt129.1 bt129.2 bt138.2.2 bt148.2.2.2 a1_0 (a1_0 == 4) a1_0 a1_1 a1_2 a1_3 a1_4 a1_5 a1_6 a1_7 l1_8 bt131.2.1 bt131.2.2.1 bt142.1 bt142.2.1 bt142.2.2.1 bt142.2.2.2.1) else (if a1_0 = 9 then (sr25_Known.j0 k bt129.1 bt129.2 bt138.2.2 bt148.2.2.2 a1_0 (a1_0 == 9) a1_0 a1_1 a1_2 a1_3 a1_4 a1_5 a1_6 a1_7 l1_8 bt131.2.1 bt131.2.2.1 bt142.1 bt142.2.1 bt142.2.2.1 bt142.2.2.2.1) else (if a1_0 = 10 then (sr25_Known.j0 k bt129.1 bt129.2 bt138.2.2 bt148.2.2.2 a1_0 (a1_0 == 10) a1_0 a1_1 a1_2 a1_3 a1_4 a1_5 a1_6 a1_7 l1_8 bt131.2.1 bt131.2.2.1 bt142.1 bt142.2.1 bt142.2.2.1 bt142.2.2.2.1) else (if a1_0 = 11 then (sr25_Known.j0 k bt129.1 bt129.2 bt138.2.2 bt148.2.2.2 a1_0 (a1_0 == 11) a1_0 a1_1 a1_2 a1_3 a1_4 a1_5 a1_6 a1_7 l1_8 bt131.2.1 bt131.2.2.1 bt142.1 bt142.2.1 bt142.2.2.1 bt142.2.2.2.1) else (if a1_0 = 13 then (sr25_Known.j0 k bt129.1 bt129.2 bt138.2.2 bt148.2.2.2 a1_0 (a1_0 == 13) a1_0 a1_1 a1_2 a1_3 a1_4 a1_5 a1_6 a1_7 l1_8 bt131.2.1 bt131.2.2.1 bt142.1 bt142.2.1 bt142.2.2.1 bt142.2.2.2.1) else (if a1_0 = 25 then (sr25_Known.j0 k bt129.1 bt129.2 bt138.2.2 bt148.2.2.2 a1_0 (a1_0 == 25) a1_0 a1_1 a1_2 a1_3 a1_4 a1_5 a1_6 a1_7 l1_8 bt131.2.1 bt131.2.2.1 bt142.1 bt142.2.1 bt142.2.2.1 bt142.2.2.2.1) else (sr25_Known.j0 k bt129.1 bt129.2 bt138.2.2 bt148.2.2.2 a1_0 (a1_0 == 28) a1_0 a1_1 a1_2 a1_3 a1_4 a1_5 a1_6 a1_7 l1_8 bt131.2.1 bt131.2.2.1 bt142.1 bt142.2.1 bt142.2.2.1 bt142.2.2.2.1)))))))))))
theorem sr25_Known.calls (k : Nat) (A0_0 : Option Addr) (c0_0 : Nat) (l0_0 : List (S33)) (A0_1 : Option Addr) (c0_1 : Nat) (l0_1 : List ByteArray) (a0_2 : ByteArray) (a0_3 : ByteArray) (a0_4 : ByteArray) (a1_0 : Int) (a1_1 : Int) (a1_2 : Int) (a1_3 : Int) (a1_4 : Int) (a1_5 : ByteArray) (a1_6 : ByteArray) (a1_7 : ByteArray) (A1_8 : Option Addr) (c1_8 : Nat) (l1_8 : List Int) (r1 : Int) (r2 : Bool) (w : World) (hr0_0 : Kd.C k33 w A0_0 l0_0.length l0_0) (hc0_0 : l0_0.length ≤ c0_0) (hr0_1 : Kd.C Kd.string w A0_1 l0_1.length l0_1) (hc0_1 : l0_1.length ≤ c0_1) (hr1_8 : Kd.C (Kd.int .i64) w A1_8 l1_8.length l1_8) (hc1_8 : l1_8.length ≤ c1_8) (h : sr25_Known.f k l0_0 l0_1 a0_2 a0_3 a0_4 a1_0 a1_1 a1_2 a1_3 a1_4 a1_5 a1_6 a1_7 l1_8 = some (r1, r2)) :
    Calls Try.prog 30 #[.agg #[.slice A0_0 l0_0.length c0_0,.slice A0_1 l0_1.length c0_1,.string a0_2,.string a0_3,.string a0_4],.agg #[.int .i64 a1_0,.int .i64 a1_1,.int .i64 a1_2,.int .i64 a1_3,.int .i64 a1_4,.string a1_5,.string a1_6,.string a1_7,.slice A1_8 l1_8.length c1_8]] w fun e w' => e = .returned (.tuple #[.int .i64 r1,.bool r2]) ∧ Below w.heap.size w w':=by
 have hu27:=Try.underlying27
 have hu74:=Try.underlying74
 have hu97:=Try.underlying97
 have hu44:=Try.underlying44
 have hu103:=Try.underlying103
 have hu25:=Try.underlying25
 have HR0_0:=aq hr0_0
 have HC0_0:=aq hc0_0
 clear hr0_0 hc0_0
 have HR0_1:=aq hr0_1
 have HC0_1:=aq hc0_1
 clear hr0_1 hc0_1
 have HR1_8:=aq hr1_8
 have HC1_8:=aq hc1_8
 clear hr1_8 hc1_8
 have HB:=aq (Below.refl w.heap.size w)
 have H : ((sr07_Sets.f k a1_0 a1_1 a1_2 a1_3 a1_4 a1_5 a1_6 a1_7 l1_8).bind fun bt129 => ((sr06_Split.f a1_7).bind fun bt131 => ((sr12_Field.f k l0_0 l0_1 a0_2 a0_3 a0_4 a1_5 a1_6).bind fun bt138 => ((sr12_FieldOf.f l0_0 l0_1 a0_2 a0_3 a0_4 bt138.1 bt138.2.1).bind fun bt142 => ((sr12_Static.f l0_0 l0_1 a0_2 a0_3 a0_4 a1_5 a1_6 a1_7).bind fun bt148 => (if a1_0 = 4 then (sr25_Known.j0 k bt129.1 bt129.2 bt138.2.2 bt148.2.2.2 a1_0 (a1_0 == 4) a1_0 a1_1 a1_2 a1_3 a1_4 a1_5 a1_6 a1_7 l1_8 bt131.2.1 bt131.2.2.1 bt142.1 bt142.2.1 bt142.2.2.1 bt142.2.2.2.1) else (if a1_0 = 9 then (sr25_Known.j0 k bt129.1 bt129.2 bt138.2.2 bt148.2.2.2 a1_0 (a1_0 == 9) a1_0 a1_1 a1_2 a1_3 a1_4 a1_5 a1_6 a1_7 l1_8 bt131.2.1 bt131.2.2.1 bt142.1 bt142.2.1 bt142.2.2.1 bt142.2.2.2.1) else (if a1_0 = 10 then (sr25_Known.j0 k bt129.1 bt129.2 bt138.2.2 bt148.2.2.2 a1_0 (a1_0 == 10) a1_0 a1_1 a1_2 a1_3 a1_4 a1_5 a1_6 a1_7 l1_8 bt131.2.1 bt131.2.2.1 bt142.1 bt142.2.1 bt142.2.2.1 bt142.2.2.2.1) else (if a1_0 = 11 then (sr25_Known.j0 k bt129.1 bt129.2 bt138.2.2 bt148.2.2.2 a1_0 (a1_0 == 11) a1_0 a1_1 a1_2 a1_3 a1_4 a1_5 a1_6 a1_7 l1_8 bt131.2.1 bt131.2.2.1 bt142.1 bt142.2.1 bt142.2.2.1 bt142.2.2.2.1) else (if a1_0 = 13 then (sr25_Known.j0 k bt129.1 bt129.2 bt138.2.2 bt148.2.2.2 a1_0 (a1_0 == 13) a1_0 a1_1 a1_2 a1_3 a1_4 a1_5 a1_6 a1_7 l1_8 bt131.2.1 bt131.2.2.1 bt142.1 bt142.2.1 bt142.2.2.1 bt142.2.2.2.1) else (if a1_0 = 25 then (sr25_Known.j0 k bt129.1 bt129.2 bt138.2.2 bt148.2.2.2 a1_0 (a1_0 == 25) a1_0 a1_1 a1_2 a1_3 a1_4 a1_5 a1_6 a1_7 l1_8 bt131.2.1 bt131.2.2.1 bt142.1 bt142.2.1 bt142.2.2.1 bt142.2.2.2.1) else (sr25_Known.j0 k bt129.1 bt129.2 bt138.2.2 bt148.2.2.2 a1_0 (a1_0 == 28) a1_0 a1_1 a1_2 a1_3 a1_4 a1_5 a1_6 a1_7 l1_8 bt131.2.1 bt131.2.2.1 bt142.1 bt142.2.1 bt142.2.2.1 bt142.2.2.2.1)))))))))))) = some (r1,r2):=h
 clear h
 replace H:=Option.bind_eq_some_iff.mp H
 obtain ⟨⟨t129,t130⟩,A30,H⟩:=H
 replace H : ((sr06_Split.f a1_7).bind fun bt131 => ((sr12_Field.f k l0_0 l0_1 a0_2 a0_3 a0_4 a1_5 a1_6).bind fun bt138 => ((sr12_FieldOf.f l0_0 l0_1 a0_2 a0_3 a0_4 bt138.1 bt138.2.1).bind fun bt142 => ((sr12_Static.f l0_0 l0_1 a0_2 a0_3 a0_4 a1_5 a1_6 a1_7).bind fun bt148 => (if a1_0 = 4 then (sr25_Known.j0 k t129 t130 bt138.2.2 bt148.2.2.2 a1_0 (a1_0 == 4) a1_0 a1_1 a1_2 a1_3 a1_4 a1_5 a1_6 a1_7 l1_8 bt131.2.1 bt131.2.2.1 bt142.1 bt142.2.1 bt142.2.2.1 bt142.2.2.2.1) else (if a1_0 = 9 then (sr25_Known.j0 k t129 t130 bt138.2.2 bt148.2.2.2 a1_0 (a1_0 == 9) a1_0 a1_1 a1_2 a1_3 a1_4 a1_5 a1_6 a1_7 l1_8 bt131.2.1 bt131.2.2.1 bt142.1 bt142.2.1 bt142.2.2.1 bt142.2.2.2.1) else (if a1_0 = 10 then (sr25_Known.j0 k t129 t130 bt138.2.2 bt148.2.2.2 a1_0 (a1_0 == 10) a1_0 a1_1 a1_2 a1_3 a1_4 a1_5 a1_6 a1_7 l1_8 bt131.2.1 bt131.2.2.1 bt142.1 bt142.2.1 bt142.2.2.1 bt142.2.2.2.1) else (if a1_0 = 11 then (sr25_Known.j0 k t129 t130 bt138.2.2 bt148.2.2.2 a1_0 (a1_0 == 11) a1_0 a1_1 a1_2 a1_3 a1_4 a1_5 a1_6 a1_7 l1_8 bt131.2.1 bt131.2.2.1 bt142.1 bt142.2.1 bt142.2.2.1 bt142.2.2.2.1) else (if a1_0 = 13 then (sr25_Known.j0 k t129 t130 bt138.2.2 bt148.2.2.2 a1_0 (a1_0 == 13) a1_0 a1_1 a1_2 a1_3 a1_4 a1_5 a1_6 a1_7 l1_8 bt131.2.1 bt131.2.2.1 bt142.1 bt142.2.1 bt142.2.2.1 bt142.2.2.2.1) else (if a1_0 = 25 then (sr25_Known.j0 k t129 t130 bt138.2.2 bt148.2.2.2 a1_0 (a1_0 == 25) a1_0 a1_1 a1_2 a1_3 a1_4 a1_5 a1_6 a1_7 l1_8 bt131.2.1 bt131.2.2.1 bt142.1 bt142.2.1 bt142.2.2.1 bt142.2.2.2.1) else (sr25_Known.j0 k t129 t130 bt138.2.2 bt148.2.2.2 a1_0 (a1_0 == 28) a1_0 a1_1 a1_2 a1_3 a1_4 a1_5 a1_6 a1_7 l1_8 bt131.2.1 bt131.2.2.1 bt142.1 bt142.2.1 bt142.2.2.1 bt142.2.2.2.1))))))))))) = some (r1,r2):=H
 have A3:=aq A30
 clear A30
 replace H:=Option.bind_eq_some_iff.mp H
 obtain ⟨⟨t131,t134,t135,t136⟩,A40,H⟩:=H
 replace H : ((sr12_Field.f k l0_0 l0_1 a0_2 a0_3 a0_4 a1_5 a1_6).bind fun bt138 => ((sr12_FieldOf.f l0_0 l0_1 a0_2 a0_3 a0_4 bt138.1 bt138.2.1).bind fun bt142 => ((sr12_Static.f l0_0 l0_1 a0_2 a0_3 a0_4 a1_5 a1_6 a1_7).bind fun bt148 => (if a1_0 = 4 then (sr25_Known.j0 k t129 t130 bt138.2.2 bt148.2.2.2 a1_0 (a1_0 == 4) a1_0 a1_1 a1_2 a1_3 a1_4 a1_5 a1_6 a1_7 l1_8 t134 t135 bt142.1 bt142.2.1 bt142.2.2.1 bt142.2.2.2.1) else (if a1_0 = 9 then (sr25_Known.j0 k t129 t130 bt138.2.2 bt148.2.2.2 a1_0 (a1_0 == 9) a1_0 a1_1 a1_2 a1_3 a1_4 a1_5 a1_6 a1_7 l1_8 t134 t135 bt142.1 bt142.2.1 bt142.2.2.1 bt142.2.2.2.1) else (if a1_0 = 10 then (sr25_Known.j0 k t129 t130 bt138.2.2 bt148.2.2.2 a1_0 (a1_0 == 10) a1_0 a1_1 a1_2 a1_3 a1_4 a1_5 a1_6 a1_7 l1_8 t134 t135 bt142.1 bt142.2.1 bt142.2.2.1 bt142.2.2.2.1) else (if a1_0 = 11 then (sr25_Known.j0 k t129 t130 bt138.2.2 bt148.2.2.2 a1_0 (a1_0 == 11) a1_0 a1_1 a1_2 a1_3 a1_4 a1_5 a1_6 a1_7 l1_8 t134 t135 bt142.1 bt142.2.1 bt142.2.2.1 bt142.2.2.2.1) else (if a1_0 = 13 then (sr25_Known.j0 k t129 t130 bt138.2.2 bt148.2.2.2 a1_0 (a1_0 == 13) a1_0 a1_1 a1_2 a1_3 a1_4 a1_5 a1_6 a1_7 l1_8 t134 t135 bt142.1 bt142.2.1 bt142.2.2.1 bt142.2.2.2.1) else (if a1_0 = 25 then (sr25_Known.j0 k t129 t130 bt138.2.2 bt148.2.2.2 a1_0 (a1_0 == 25) a1_0 a1_1 a1_2 a1_3 a1_4 a1_5 a1_6 a1_7 l1_8 t134 t135 bt142.1 bt142.2.1 bt142.2.2.1 bt142.2.2.2.1) else (sr25_Known.j0 k t129 t130 bt138.2.2 bt148.2.2.2 a1_0 (a1_0 == 28) a1_0 a1_1 a1_2 a1_3 a1_4 a1_5 a1_6 a1_7 l1_8 t134 t135 bt142.1 bt142.2.1 bt142.2.2.1 bt142.2.2.2.1)))))))))) = some (r1,r2):=H
 have A4:=aq A40
 clear A40
 replace H:=Option.bind_eq_some_iff.mp H
 obtain ⟨⟨t138,t139,t140⟩,A50,H⟩:=H
 replace H : ((sr12_FieldOf.f l0_0 l0_1 a0_2 a0_3 a0_4 t138 t139).bind fun bt142 => ((sr12_Static.f l0_0 l0_1 a0_2 a0_3 a0_4 a1_5 a1_6 a1_7).bind fun bt148 => (if a1_0 = 4 then (sr25_Known.j0 k t129 t130 t140 bt148.2.2.2 a1_0 (a1_0 == 4) a1_0 a1_1 a1_2 a1_3 a1_4 a1_5 a1_6 a1_7 l1_8 t134 t135 bt142.1 bt142.2.1 bt142.2.2.1 bt142.2.2.2.1) else (if a1_0 = 9 then (sr25_Known.j0 k t129 t130 t140 bt148.2.2.2 a1_0 (a1_0 == 9) a1_0 a1_1 a1_2 a1_3 a1_4 a1_5 a1_6 a1_7 l1_8 t134 t135 bt142.1 bt142.2.1 bt142.2.2.1 bt142.2.2.2.1) else (if a1_0 = 10 then (sr25_Known.j0 k t129 t130 t140 bt148.2.2.2 a1_0 (a1_0 == 10) a1_0 a1_1 a1_2 a1_3 a1_4 a1_5 a1_6 a1_7 l1_8 t134 t135 bt142.1 bt142.2.1 bt142.2.2.1 bt142.2.2.2.1) else (if a1_0 = 11 then (sr25_Known.j0 k t129 t130 t140 bt148.2.2.2 a1_0 (a1_0 == 11) a1_0 a1_1 a1_2 a1_3 a1_4 a1_5 a1_6 a1_7 l1_8 t134 t135 bt142.1 bt142.2.1 bt142.2.2.1 bt142.2.2.2.1) else (if a1_0 = 13 then (sr25_Known.j0 k t129 t130 t140 bt148.2.2.2 a1_0 (a1_0 == 13) a1_0 a1_1 a1_2 a1_3 a1_4 a1_5 a1_6 a1_7 l1_8 t134 t135 bt142.1 bt142.2.1 bt142.2.2.1 bt142.2.2.2.1) else (if a1_0 = 25 then (sr25_Known.j0 k t129 t130 t140 bt148.2.2.2 a1_0 (a1_0 == 25) a1_0 a1_1 a1_2 a1_3 a1_4 a1_5 a1_6 a1_7 l1_8 t134 t135 bt142.1 bt142.2.1 bt142.2.2.1 bt142.2.2.2.1) else (sr25_Known.j0 k t129 t130 t140 bt148.2.2.2 a1_0 (a1_0 == 28) a1_0 a1_1 a1_2 a1_3 a1_4 a1_5 a1_6 a1_7 l1_8 t134 t135 bt142.1 bt142.2.1 bt142.2.2.1 bt142.2.2.2.1))))))))) = some (r1,r2):=H
 have A5:=aq A50
 clear A50
 replace H:=Option.bind_eq_some_iff.mp H
 obtain ⟨⟨t142,t143,t144,t145,t146⟩,A60,H⟩:=H
 replace H : ((sr12_Static.f l0_0 l0_1 a0_2 a0_3 a0_4 a1_5 a1_6 a1_7).bind fun bt148 => (if a1_0 = 4 then (sr25_Known.j0 k t129 t130 t140 bt148.2.2.2 a1_0 (a1_0 == 4) a1_0 a1_1 a1_2 a1_3 a1_4 a1_5 a1_6 a1_7 l1_8 t134 t135 t142 t143 t144 t145) else (if a1_0 = 9 then (sr25_Known.j0 k t129 t130 t140 bt148.2.2.2 a1_0 (a1_0 == 9) a1_0 a1_1 a1_2 a1_3 a1_4 a1_5 a1_6 a1_7 l1_8 t134 t135 t142 t143 t144 t145) else (if a1_0 = 10 then (sr25_Known.j0 k t129 t130 t140 bt148.2.2.2 a1_0 (a1_0 == 10) a1_0 a1_1 a1_2 a1_3 a1_4 a1_5 a1_6 a1_7 l1_8 t134 t135 t142 t143 t144 t145) else (if a1_0 = 11 then (sr25_Known.j0 k t129 t130 t140 bt148.2.2.2 a1_0 (a1_0 == 11) a1_0 a1_1 a1_2 a1_3 a1_4 a1_5 a1_6 a1_7 l1_8 t134 t135 t142 t143 t144 t145) else (if a1_0 = 13 then (sr25_Known.j0 k t129 t130 t140 bt148.2.2.2 a1_0 (a1_0 == 13) a1_0 a1_1 a1_2 a1_3 a1_4 a1_5 a1_6 a1_7 l1_8 t134 t135 t142 t143 t144 t145) else (if a1_0 = 25 then (sr25_Known.j0 k t129 t130 t140 bt148.2.2.2 a1_0 (a1_0 == 25) a1_0 a1_1 a1_2 a1_3 a1_4 a1_5 a1_6 a1_7 l1_8 t134 t135 t142 t143 t144 t145) else (sr25_Known.j0 k t129 t130 t140 bt148.2.2.2 a1_0 (a1_0 == 28) a1_0 a1_1 a1_2 a1_3 a1_4 a1_5 a1_6 a1_7 l1_8 t134 t135 t142 t143 t144 t145)))))))) = some (r1,r2):=H
 have A6:=aq A60
 clear A60
 replace H:=Option.bind_eq_some_iff.mp H
 obtain ⟨⟨t148,t149,t150,t151⟩,A70,H⟩:=H
 replace H : (if a1_0 = 4 then (sr25_Known.j0 k t129 t130 t140 t151 a1_0 (a1_0 == 4) a1_0 a1_1 a1_2 a1_3 a1_4 a1_5 a1_6 a1_7 l1_8 t134 t135 t142 t143 t144 t145) else (if a1_0 = 9 then (sr25_Known.j0 k t129 t130 t140 t151 a1_0 (a1_0 == 9) a1_0 a1_1 a1_2 a1_3 a1_4 a1_5 a1_6 a1_7 l1_8 t134 t135 t142 t143 t144 t145) else (if a1_0 = 10 then (sr25_Known.j0 k t129 t130 t140 t151 a1_0 (a1_0 == 10) a1_0 a1_1 a1_2 a1_3 a1_4 a1_5 a1_6 a1_7 l1_8 t134 t135 t142 t143 t144 t145) else (if a1_0 = 11 then (sr25_Known.j0 k t129 t130 t140 t151 a1_0 (a1_0 == 11) a1_0 a1_1 a1_2 a1_3 a1_4 a1_5 a1_6 a1_7 l1_8 t134 t135 t142 t143 t144 t145) else (if a1_0 = 13 then (sr25_Known.j0 k t129 t130 t140 t151 a1_0 (a1_0 == 13) a1_0 a1_1 a1_2 a1_3 a1_4 a1_5 a1_6 a1_7 l1_8 t134 t135 t142 t143 t144 t145) else (if a1_0 = 25 then (sr25_Known.j0 k t129 t130 t140 t151 a1_0 (a1_0 == 25) a1_0 a1_1 a1_2 a1_3 a1_4 a1_5 a1_6 a1_7 l1_8 t134 t135 t142 t143 t144 t145) else (sr25_Known.j0 k t129 t130 t140 t151 a1_0 (a1_0 == 28) a1_0 a1_1 a1_2 a1_3 a1_4 a1_5 a1_6 a1_7 l1_8 t134 t135 t142 t143 t144 t145))))))) = some (r1,r2):=H
 have A7:=aq A70
 clear A70
 have HC8:=aq H
 clear H
 go_enter Try.func30,Try.ntmps30
 go_upto_if 59 with (first|((with_reducible refine gate_dst (N:=2) rfl ?_);(try (refine gate_guard (by rfl) ?_;dsimp only));refine box_event rfl (N:=2) rfl (cs:=#[.slice A0_0 l0_0.length c0_0,.slice A0_1 l0_1.length c0_1,.string a0_2,.string a0_3,.string a0_4]) (t:=27) gS ?_;intro gb127 hg w9 hbox hb;have BK127:=aq (hbox);have GE127:=aq ((GN hg : w.heap.size ≤ gb127));replace HB:=aq (below_step bH hb);clear hb hbox hg)|((with_reducible refine gate_dst (N:=3) rfl ?_);(try (refine gate_guard (by rfl) ?_;dsimp only));refine box_event rfl (N:=3) rfl (cs:=#[.int .i64 a1_0,.int .i64 a1_1,.int .i64 a1_2,.int .i64 a1_3,.int .i64 a1_4,.string a1_5,.string a1_6,.string a1_7,.slice A1_8 l1_8.length c1_8]) (t:=74) gS ?_;intro gb128 hg w10 hbox hb;have BK128:=aq (hbox);have GE128:=aq ((GN hg : w.heap.size ≤ gb128));have NB127_128:=aq (NL hg BK127);have NB128_127:=aq (NG hg BK127);replace BK127:=KN BK127 hb;replace HB:=aq (below_step bH hb);clear hb hbox hg;have hnb11:=NB128_127.out;have hnc11:=NB127_128.out;have hcz12_0 : w10.cell? ⟨gb128,0,none⟩ = some (.int .i64 a1_0):=(blk_cell BK128.out 0).trans rfl;have hcz12_1 : w10.cell? ⟨gb128,1,none⟩ = some (.int .i64 a1_1):=(blk_cell BK128.out 1).trans rfl;have hcz12_2 : w10.cell? ⟨gb128,2,none⟩ = some (.int .i64 a1_2):=(blk_cell BK128.out 2).trans rfl;have hcz12_3 : w10.cell? ⟨gb128,3,none⟩ = some (.int .i64 a1_3):=(blk_cell BK128.out 3).trans rfl;have hcz12_4 : w10.cell? ⟨gb128,4,none⟩ = some (.int .i64 a1_4):=(blk_cell BK128.out 4).trans rfl;have hcz12_5 : w10.cell? ⟨gb128,5,none⟩ = some (.string a1_5):=(blk_cell BK128.out 5).trans rfl;have hcz12_6 : w10.cell? ⟨gb128,6,none⟩ = some (.string a1_6):=(blk_cell BK128.out 6).trans rfl;have hcz12_7 : w10.cell? ⟨gb128,7,none⟩ = some (.string a1_7):=(blk_cell BK128.out 7).trans rfl;have hcz12_8 : w10.cell? ⟨gb128,8,none⟩ = some (.slice A1_8 l1_8.length c1_8):=(blk_cell BK128.out 8).trans rfl;have hfz12_0:=blk_frozen BK128.out 0;have hfz12_1:=blk_frozen BK128.out 1;have hfz12_2:=blk_frozen BK128.out 2;have hfz12_3:=blk_frozen BK128.out 3;have hfz12_4:=blk_frozen BK128.out 4;have hfz12_5:=blk_frozen BK128.out 5;have hfz12_6:=blk_frozen BK128.out 6;have hfz12_7:=blk_frozen BK128.out 7;have hfz12_8:=blk_frozen BK128.out 8)|((with_reducible refine gate_callee (f:=47) rfl ?_);refine goesL_ (some 19) rfl rfl Try.func47 (by kernel_rfl) rfl #[.agg #[.int .i64 a1_0,.int .i64 a1_1,.int .i64 a1_2,.int .i64 a1_3,.int .i64 a1_4,.string a1_5,.string a1_6,.string a1_7,.slice A1_8 l1_8.length c1_8]] rfl eA ?_;(with_reducible refine (sr07_Sets.calls k a1_0 a1_1 a1_2 a1_3 a1_4 a1_5 a1_6 a1_7 _ _ l1_8 t129 t130 _ ?side1 ?side2 A3.out).mono ?_);(case side1 => exact CU HR1_8);(case side2 => exact HC1_8.out);rintro e w13 ⟨rfl,hb⟩;refine ⟨_,rfl,?_⟩;replace BK127:=KN BK127 hb;replace BK128:=KN BK128 hb;replace HB:=aq (below_step bH hb);(try clear hb);(try clear hb2);(try clear hk);(try clear hi);have hcz14_0 : w13.cell? ⟨gb128,0,none⟩ = some (.int .i64 a1_0):=(blk_cell BK128.out 0).trans rfl;have hcz14_1 : w13.cell? ⟨gb128,1,none⟩ = some (.int .i64 a1_1):=(blk_cell BK128.out 1).trans rfl;have hcz14_2 : w13.cell? ⟨gb128,2,none⟩ = some (.int .i64 a1_2):=(blk_cell BK128.out 2).trans rfl;have hcz14_3 : w13.cell? ⟨gb128,3,none⟩ = some (.int .i64 a1_3):=(blk_cell BK128.out 3).trans rfl;have hcz14_4 : w13.cell? ⟨gb128,4,none⟩ = some (.int .i64 a1_4):=(blk_cell BK128.out 4).trans rfl;have hcz14_5 : w13.cell? ⟨gb128,5,none⟩ = some (.string a1_5):=(blk_cell BK128.out 5).trans rfl;have hcz14_6 : w13.cell? ⟨gb128,6,none⟩ = some (.string a1_6):=(blk_cell BK128.out 6).trans rfl;have hcz14_7 : w13.cell? ⟨gb128,7,none⟩ = some (.string a1_7):=(blk_cell BK128.out 7).trans rfl;have hcz14_8 : w13.cell? ⟨gb128,8,none⟩ = some (.slice A1_8 l1_8.length c1_8):=(blk_cell BK128.out 8).trans rfl;have hfz14_0:=blk_frozen BK128.out 0;have hfz14_1:=blk_frozen BK128.out 1;have hfz14_2:=blk_frozen BK128.out 2;have hfz14_3:=blk_frozen BK128.out 3;have hfz14_4:=blk_frozen BK128.out 4;have hfz14_5:=blk_frozen BK128.out 5;have hfz14_6:=blk_frozen BK128.out 6;have hfz14_7:=blk_frozen BK128.out 7;have hfz14_8:=blk_frozen BK128.out 8)|((with_reducible refine gate_callee (f:=48) rfl ?_);refine goesL_ (some 25) rfl rfl Try.func48 (by kernel_rfl) rfl #[.string a1_7] rfl eA ?_;(with_reducible refine (sr06_Split.calls a1_7 t131 t134 t135 t136 _ A4.out).mono ?_);rintro e w15 ⟨v132,rfl,ho0,hb⟩;refine ⟨_,rfl,?_⟩;have HO133:=aq (Kd.R_lower ho0 (below_size bH));replace BK127:=KN BK127 hb;replace BK128:=KN BK128 hb;replace HB:=aq (below_step bH hb);(try clear hb);(try clear hb2);(try clear hk);(try clear hi);(try clear ho0))|((with_reducible refine gate_dst (N:=9) rfl ?_);(try (refine gate_guard (by rfl) ?_;dsimp only));refine box_event rfl (N:=9) rfl (cs:=#[.int .i64 0,.string (⟨#[]⟩ : ByteArray)]) (t:=97) gS ?_;intro gb137 hg w16 hbox hb;have BK137:=aq (hbox);have GE137:=aq ((GN hg : w.heap.size ≤ gb137));have NB127_137:=aq (NL hg BK127);have NB137_127:=aq (NG hg BK127);have NB128_137:=aq (NL hg BK128);have NB137_128:=aq (NG hg BK128);replace HO133:=aq (Kd.R_below (Kd.R_elderB (RU HO133.out) gb137 (Nat.le_of_eq hg.symm)) hb);replace BK127:=KN BK127 hb;replace BK128:=KN BK128 hb;replace HB:=aq (below_step bH hb);clear hb hbox hg;have hnb17:=NB137_127.out;have hnc17:=NB127_137.out;have hnb18:=NB137_128.out;have hnc18:=NB128_137.out;have hcz19_0 : w16.cell? ⟨gb137,0,none⟩ = some (.int .i64 0):=(blk_cell BK137.out 0).trans rfl;have hcz19_1 : w16.cell? ⟨gb137,1,none⟩ = some (.string (⟨#[]⟩ : ByteArray)):=(blk_cell BK137.out 1).trans rfl;have hfz19_0:=blk_frozen BK137.out 0;have hfz19_1:=blk_frozen BK137.out 1;have hcz20_0 : w16.cell? ⟨gb127,0,none⟩ = some (.slice A0_0 l0_0.length c0_0):=(blk_cell BK127.out 0).trans rfl;have hcz20_1 : w16.cell? ⟨gb127,1,none⟩ = some (.slice A0_1 l0_1.length c0_1):=(blk_cell BK127.out 1).trans rfl;have hcz20_2 : w16.cell? ⟨gb127,2,none⟩ = some (.string a0_2):=(blk_cell BK127.out 2).trans rfl;have hcz20_3 : w16.cell? ⟨gb127,3,none⟩ = some (.string a0_3):=(blk_cell BK127.out 3).trans rfl;have hcz20_4 : w16.cell? ⟨gb127,4,none⟩ = some (.string a0_4):=(blk_cell BK127.out 4).trans rfl;have hfz20_0:=blk_frozen BK127.out 0;have hfz20_1:=blk_frozen BK127.out 1;have hfz20_2:=blk_frozen BK127.out 2;have hfz20_3:=blk_frozen BK127.out 3;have hfz20_4:=blk_frozen BK127.out 4;have hcz21_0 : w16.cell? ⟨gb128,0,none⟩ = some (.int .i64 a1_0):=(blk_cell BK128.out 0).trans rfl;have hcz21_1 : w16.cell? ⟨gb128,1,none⟩ = some (.int .i64 a1_1):=(blk_cell BK128.out 1).trans rfl;have hcz21_2 : w16.cell? ⟨gb128,2,none⟩ = some (.int .i64 a1_2):=(blk_cell BK128.out 2).trans rfl;have hcz21_3 : w16.cell? ⟨gb128,3,none⟩ = some (.int .i64 a1_3):=(blk_cell BK128.out 3).trans rfl;have hcz21_4 : w16.cell? ⟨gb128,4,none⟩ = some (.int .i64 a1_4):=(blk_cell BK128.out 4).trans rfl;have hcz21_5 : w16.cell? ⟨gb128,5,none⟩ = some (.string a1_5):=(blk_cell BK128.out 5).trans rfl;have hcz21_6 : w16.cell? ⟨gb128,6,none⟩ = some (.string a1_6):=(blk_cell BK128.out 6).trans rfl;have hcz21_7 : w16.cell? ⟨gb128,7,none⟩ = some (.string a1_7):=(blk_cell BK128.out 7).trans rfl;have hcz21_8 : w16.cell? ⟨gb128,8,none⟩ = some (.slice A1_8 l1_8.length c1_8):=(blk_cell BK128.out 8).trans rfl;have hfz21_0:=blk_frozen BK128.out 0;have hfz21_1:=blk_frozen BK128.out 1;have hfz21_2:=blk_frozen BK128.out 2;have hfz21_3:=blk_frozen BK128.out 3;have hfz21_4:=blk_frozen BK128.out 4;have hfz21_5:=blk_frozen BK128.out 5;have hfz21_6:=blk_frozen BK128.out 6;have hfz21_7:=blk_frozen BK128.out 7;have hfz21_8:=blk_frozen BK128.out 8)|((with_reducible refine gate_callee (f:=49) rfl ?_);refine goesL_ (some 36) rfl rfl Try.func49 (by kernel_rfl) rfl #[.agg #[.slice A0_0 l0_0.length c0_0,.slice A0_1 l0_1.length c0_1,.string a0_2,.string a0_3,.string a0_4],.agg #[.string a1_5,.string a1_6]] rfl eA ?_;(with_reducible refine (sr12_Field.calls k _ _ l0_0 _ _ l0_1 a0_2 a0_3 a0_4 a1_5 a1_6 t138 t139 t140 _ ?side1 ?side2 ?side3 ?side4 A5.out).mono ?_);(case side1 => exact Kd.C_below HR0_0.out bH);(case side2 => exact HC0_0.out);(case side3 => exact Kd.C_below HR0_1.out bH);(case side4 => exact HC0_1.out);rintro e w22 ⟨rfl,hb⟩;refine ⟨_,rfl,?_⟩;replace HO133:=aq (Kd.R_below (by (with_reducible repeat (first|apply Kd.R_alloc|apply Kd.R_drewN|apply Kd.R_drew));exact (Kd.R_mono (RF gb137 1 (RF gb137 0 (Kd.R_mono HO133.out (fun k_ hk => (⟨hk,hk.2⟩ : _ ∧ k_ ≠ gb137))) (.int .i64 t134)) (.string t135)) (fun _ h_ => h_.1))) hb);replace BK127:=aq (blk_below (g:=gb127) (o:=.cells #[.slice A0_0 l0_0.length c0_0,.slice A0_1 l0_1.length c0_1,.string a0_2,.string a0_3,.string a0_4] 27 (0,0)) (by refine KU ?_;refine blk_far ?_ NB127_137.out _;refine KU ?_;refine blk_far ?_ NB127_137.out _;refine KU ?_;exact BK127.out) hb);replace BK128:=aq (blk_below (g:=gb128) (o:=.cells #[.int .i64 a1_0,.int .i64 a1_1,.int .i64 a1_2,.int .i64 a1_3,.int .i64 a1_4,.string a1_5,.string a1_6,.string a1_7,.slice A1_8 l1_8.length c1_8] 74 (0,0)) (by refine KU ?_;refine blk_far ?_ NB128_137.out _;refine KU ?_;refine blk_far ?_ NB128_137.out _;refine KU ?_;exact BK128.out) hb);replace BK137:=aq (blk_below (g:=gb137) (o:=.cells #[.int .i64 t134,.string t135] 97 (0,0)) (by refine KU ?_;refine blk_put (cs:=#[.int .i64 t134,.string (⟨#[]⟩ : ByteArray)]) ?_ 1 _ rfl;refine KU ?_;refine blk_put (cs:=#[.int .i64 0,.string (⟨#[]⟩ : ByteArray)]) ?_ 0 _ rfl;refine KU ?_;exact BK137.out) hb);replace HB:=aq (below_step bH hb);(try clear hb);(try clear hb2);(try clear hk);(try clear hi))|((with_reducible refine gate_dst (N:=11) rfl ?_);(try (refine gate_guard (by rfl) ?_;dsimp only));refine box_event rfl (N:=11) rfl (cs:=#[.string (⟨#[]⟩ : ByteArray),.string (⟨#[]⟩ : ByteArray)]) (t:=44) gS ?_;intro gb141 hg w23 hbox hb;have BK141:=aq (hbox);have GE141:=aq ((GN hg : w.heap.size ≤ gb141));have NB127_141:=aq (NL hg BK127);have NB141_127:=aq (NG hg BK127);have NB128_141:=aq (NL hg BK128);have NB141_128:=aq (NG hg BK128);have NB137_141:=aq (NL hg BK137);have NB141_137:=aq (NG hg BK137);replace HO133:=RN HO133 hb;replace BK127:=KN BK127 hb;replace BK128:=KN BK128 hb;replace BK137:=KN BK137 hb;replace HB:=aq (below_step bH hb);clear hb hbox hg;have hnb24:=NB141_127.out;have hnc24:=NB127_141.out;have hnb25:=NB141_128.out;have hnc25:=NB128_141.out;have hnb26:=NB141_137.out;have hnc26:=NB137_141.out;have hcz27_0 : w23.cell? ⟨gb141,0,none⟩ = some (.string (⟨#[]⟩ : ByteArray)):=(blk_cell BK141.out 0).trans rfl;have hcz27_1 : w23.cell? ⟨gb141,1,none⟩ = some (.string (⟨#[]⟩ : ByteArray)):=(blk_cell BK141.out 1).trans rfl;have hfz27_0:=blk_frozen BK141.out 0;have hfz27_1:=blk_frozen BK141.out 1;have hcz28_0 : w23.cell? ⟨gb127,0,none⟩ = some (.slice A0_0 l0_0.length c0_0):=(blk_cell BK127.out 0).trans rfl;have hcz28_1 : w23.cell? ⟨gb127,1,none⟩ = some (.slice A0_1 l0_1.length c0_1):=(blk_cell BK127.out 1).trans rfl;have hcz28_2 : w23.cell? ⟨gb127,2,none⟩ = some (.string a0_2):=(blk_cell BK127.out 2).trans rfl;have hcz28_3 : w23.cell? ⟨gb127,3,none⟩ = some (.string a0_3):=(blk_cell BK127.out 3).trans rfl;have hcz28_4 : w23.cell? ⟨gb127,4,none⟩ = some (.string a0_4):=(blk_cell BK127.out 4).trans rfl;have hfz28_0:=blk_frozen BK127.out 0;have hfz28_1:=blk_frozen BK127.out 1;have hfz28_2:=blk_frozen BK127.out 2;have hfz28_3:=blk_frozen BK127.out 3;have hfz28_4:=blk_frozen BK127.out 4)|((with_reducible refine gate_callee (f:=50) rfl ?_);refine goesL_ (some 42) rfl rfl Try.func50 (by kernel_rfl) rfl #[.agg #[.slice A0_0 l0_0.length c0_0,.slice A0_1 l0_1.length c0_1,.string a0_2,.string a0_3,.string a0_4],.agg #[.string t138,.string t139]] rfl eA ?_;(with_reducible refine (sr12_FieldOf.calls _ _ l0_0 _ _ l0_1 a0_2 a0_3 a0_4 t138 t139 t142 t143 t144 t145 t146 _ ?side1 ?side2 ?side3 ?side4 A6.out).mono ?_);(case side1 => exact Kd.C_below HR0_0.out bH);(case side2 => exact HC0_0.out);(case side3 => exact Kd.C_below HR0_1.out bH);(case side4 => exact HC0_1.out);rintro e w29 ⟨rfl,hb⟩;refine ⟨_,rfl,?_⟩;replace HO133:=aq (Kd.R_below (by (with_reducible repeat (first|apply Kd.R_alloc|apply Kd.R_drewN|apply Kd.R_drew));exact (Kd.R_mono (RF gb141 1 (RF gb141 0 (Kd.R_types HO133.out BK141.out (by decide)) (.string t138)) (.string t139)) (fun _ h_ => h_.1))) hb);replace BK127:=aq (blk_below (g:=gb127) (o:=.cells #[.slice A0_0 l0_0.length c0_0,.slice A0_1 l0_1.length c0_1,.string a0_2,.string a0_3,.string a0_4] 27 (0,0)) (by refine KU ?_;refine blk_far ?_ NB127_141.out _;refine KU ?_;refine blk_far ?_ NB127_141.out _;refine KU ?_;exact BK127.out) hb);replace BK128:=aq (blk_below (g:=gb128) (o:=.cells #[.int .i64 a1_0,.int .i64 a1_1,.int .i64 a1_2,.int .i64 a1_3,.int .i64 a1_4,.string a1_5,.string a1_6,.string a1_7,.slice A1_8 l1_8.length c1_8] 74 (0,0)) (by refine KU ?_;refine blk_far ?_ NB128_141.out _;refine KU ?_;refine blk_far ?_ NB128_141.out _;refine KU ?_;exact BK128.out) hb);replace BK137:=aq (blk_below (g:=gb137) (o:=.cells #[.int .i64 t134,.string t135] 97 (0,0)) (by refine KU ?_;refine blk_far ?_ NB137_141.out _;refine KU ?_;refine blk_far ?_ NB137_141.out _;refine KU ?_;exact BK137.out) hb);replace BK141:=aq (blk_below (g:=gb141) (o:=.cells #[.string t138,.string t139] 44 (0,0)) (by refine KU ?_;refine blk_put (cs:=#[.string t138,.string (⟨#[]⟩ : ByteArray)]) ?_ 1 _ rfl;refine KU ?_;refine blk_put (cs:=#[.string (⟨#[]⟩ : ByteArray),.string (⟨#[]⟩ : ByteArray)]) ?_ 0 _ rfl;refine KU ?_;exact BK141.out) hb);replace HB:=aq (below_step bH hb);(try clear hb);(try clear hb2);(try clear hk);(try clear hi))|((with_reducible refine gate_dst (N:=13) rfl ?_);(try (refine gate_guard (by rfl) ?_;dsimp only));refine box_event rfl (N:=13) rfl (cs:=#[.string (⟨#[]⟩ : ByteArray),.int .i64 0,.string (⟨#[]⟩ : ByteArray),.bool false]) (t:=103) gS ?_;intro gb147 hg w30 hbox hb;have BK147:=aq (hbox);have GE147:=aq ((GN hg : w.heap.size ≤ gb147));have NB127_147:=aq (NL hg BK127);have NB147_127:=aq (NG hg BK127);have NB128_147:=aq (NL hg BK128);have NB147_128:=aq (NG hg BK128);have NB137_147:=aq (NL hg BK137);have NB147_137:=aq (NG hg BK137);have NB141_147:=aq (NL hg BK141);have NB147_141:=aq (NG hg BK141);replace HO133:=RN HO133 hb;replace BK127:=KN BK127 hb;replace BK128:=KN BK128 hb;replace BK137:=KN BK137 hb;replace BK141:=KN BK141 hb;replace HB:=aq (below_step bH hb);clear hb hbox hg;have hnb31:=NB147_127.out;have hnc31:=NB127_147.out;have hnb32:=NB147_128.out;have hnc32:=NB128_147.out;have hnb33:=NB147_137.out;have hnc33:=NB137_147.out;have hnb34:=NB147_141.out;have hnc34:=NB141_147.out;have hcz35_0 : w30.cell? ⟨gb147,0,none⟩ = some (.string (⟨#[]⟩ : ByteArray)):=(blk_cell BK147.out 0).trans rfl;have hcz35_1 : w30.cell? ⟨gb147,1,none⟩ = some (.int .i64 0):=(blk_cell BK147.out 1).trans rfl;have hcz35_2 : w30.cell? ⟨gb147,2,none⟩ = some (.string (⟨#[]⟩ : ByteArray)):=(blk_cell BK147.out 2).trans rfl;have hcz35_3 : w30.cell? ⟨gb147,3,none⟩ = some (.bool false):=(blk_cell BK147.out 3).trans rfl;have hfz35_0:=blk_frozen BK147.out 0;have hfz35_1:=blk_frozen BK147.out 1;have hfz35_2:=blk_frozen BK147.out 2;have hfz35_3:=blk_frozen BK147.out 3;have hcz36_0 : w30.cell? ⟨gb127,0,none⟩ = some (.slice A0_0 l0_0.length c0_0):=(blk_cell BK127.out 0).trans rfl;have hcz36_1 : w30.cell? ⟨gb127,1,none⟩ = some (.slice A0_1 l0_1.length c0_1):=(blk_cell BK127.out 1).trans rfl;have hcz36_2 : w30.cell? ⟨gb127,2,none⟩ = some (.string a0_2):=(blk_cell BK127.out 2).trans rfl;have hcz36_3 : w30.cell? ⟨gb127,3,none⟩ = some (.string a0_3):=(blk_cell BK127.out 3).trans rfl;have hcz36_4 : w30.cell? ⟨gb127,4,none⟩ = some (.string a0_4):=(blk_cell BK127.out 4).trans rfl;have hfz36_0:=blk_frozen BK127.out 0;have hfz36_1:=blk_frozen BK127.out 1;have hfz36_2:=blk_frozen BK127.out 2;have hfz36_3:=blk_frozen BK127.out 3;have hfz36_4:=blk_frozen BK127.out 4;have hcz37_0 : w30.cell? ⟨gb128,0,none⟩ = some (.int .i64 a1_0):=(blk_cell BK128.out 0).trans rfl;have hcz37_1 : w30.cell? ⟨gb128,1,none⟩ = some (.int .i64 a1_1):=(blk_cell BK128.out 1).trans rfl;have hcz37_2 : w30.cell? ⟨gb128,2,none⟩ = some (.int .i64 a1_2):=(blk_cell BK128.out 2).trans rfl;have hcz37_3 : w30.cell? ⟨gb128,3,none⟩ = some (.int .i64 a1_3):=(blk_cell BK128.out 3).trans rfl;have hcz37_4 : w30.cell? ⟨gb128,4,none⟩ = some (.int .i64 a1_4):=(blk_cell BK128.out 4).trans rfl;have hcz37_5 : w30.cell? ⟨gb128,5,none⟩ = some (.string a1_5):=(blk_cell BK128.out 5).trans rfl;have hcz37_6 : w30.cell? ⟨gb128,6,none⟩ = some (.string a1_6):=(blk_cell BK128.out 6).trans rfl;have hcz37_7 : w30.cell? ⟨gb128,7,none⟩ = some (.string a1_7):=(blk_cell BK128.out 7).trans rfl;have hcz37_8 : w30.cell? ⟨gb128,8,none⟩ = some (.slice A1_8 l1_8.length c1_8):=(blk_cell BK128.out 8).trans rfl;have hfz37_0:=blk_frozen BK128.out 0;have hfz37_1:=blk_frozen BK128.out 1;have hfz37_2:=blk_frozen BK128.out 2;have hfz37_3:=blk_frozen BK128.out 3;have hfz37_4:=blk_frozen BK128.out 4;have hfz37_5:=blk_frozen BK128.out 5;have hfz37_6:=blk_frozen BK128.out 6;have hfz37_7:=blk_frozen BK128.out 7;have hfz37_8:=blk_frozen BK128.out 8)|((with_reducible refine gate_callee (f:=51) rfl ?_);refine goesL_ (some 54) rfl rfl Try.func51 (by kernel_rfl) rfl #[.agg #[.slice A0_0 l0_0.length c0_0,.slice A0_1 l0_1.length c0_1,.string a0_2,.string a0_3,.string a0_4],.agg #[.string a1_5,.string a1_6,.string a1_7]] rfl eA ?_;(with_reducible refine (sr12_Static.calls _ _ l0_0 _ _ l0_1 a0_2 a0_3 a0_4 a1_5 a1_6 a1_7 t148 t149 t150 t151 _ ?side1 ?side2 ?side3 ?side4 A7.out).mono ?_);(case side1 => exact Kd.C_below HR0_0.out bH);(case side2 => exact HC0_0.out);(case side3 => exact Kd.C_below HR0_1.out bH);(case side4 => exact HC0_1.out);rintro e w38 ⟨rfl,hb⟩;refine ⟨_,rfl,?_⟩;replace HO133:=aq (Kd.R_below (by (with_reducible repeat (first|apply Kd.R_alloc|apply Kd.R_drewN|apply Kd.R_drew));exact (Kd.R_mono (RF gb147 3 (RF gb147 2 (RF gb147 1 (RF gb147 0 (Kd.R_types HO133.out BK147.out (by decide)) (.string t142)) (.int .i64 t143)) (.string t144)) (.bool t145)) (fun _ h_ => h_.1))) hb);replace BK127:=aq (blk_below (g:=gb127) (o:=.cells #[.slice A0_0 l0_0.length c0_0,.slice A0_1 l0_1.length c0_1,.string a0_2,.string a0_3,.string a0_4] 27 (0,0)) (by refine KU ?_;refine blk_far ?_ NB127_147.out _;refine KU ?_;refine blk_far ?_ NB127_147.out _;refine KU ?_;refine blk_far ?_ NB127_147.out _;refine KU ?_;refine blk_far ?_ NB127_147.out _;refine KU ?_;exact BK127.out) hb);replace BK128:=aq (blk_below (g:=gb128) (o:=.cells #[.int .i64 a1_0,.int .i64 a1_1,.int .i64 a1_2,.int .i64 a1_3,.int .i64 a1_4,.string a1_5,.string a1_6,.string a1_7,.slice A1_8 l1_8.length c1_8] 74 (0,0)) (by refine KU ?_;refine blk_far ?_ NB128_147.out _;refine KU ?_;refine blk_far ?_ NB128_147.out _;refine KU ?_;refine blk_far ?_ NB128_147.out _;refine KU ?_;refine blk_far ?_ NB128_147.out _;refine KU ?_;exact BK128.out) hb);replace BK137:=aq (blk_below (g:=gb137) (o:=.cells #[.int .i64 t134,.string t135] 97 (0,0)) (by refine KU ?_;refine blk_far ?_ NB137_147.out _;refine KU ?_;refine blk_far ?_ NB137_147.out _;refine KU ?_;refine blk_far ?_ NB137_147.out _;refine KU ?_;refine blk_far ?_ NB137_147.out _;refine KU ?_;exact BK137.out) hb);replace BK141:=aq (blk_below (g:=gb141) (o:=.cells #[.string t138,.string t139] 44 (0,0)) (by refine KU ?_;refine blk_far ?_ NB141_147.out _;refine KU ?_;refine blk_far ?_ NB141_147.out _;refine KU ?_;refine blk_far ?_ NB141_147.out _;refine KU ?_;refine blk_far ?_ NB141_147.out _;refine KU ?_;exact BK141.out) hb);replace BK147:=aq (blk_below (g:=gb147) (o:=.cells #[.string t142,.int .i64 t143,.string t144,.bool t145] 103 (0,0)) (by refine KU ?_;refine blk_put (cs:=#[.string t142,.int .i64 t143,.string t144,.bool false]) ?_ 3 _ rfl;refine KU ?_;refine blk_put (cs:=#[.string t142,.int .i64 t143,.string (⟨#[]⟩ : ByteArray),.bool false]) ?_ 2 _ rfl;refine KU ?_;refine blk_put (cs:=#[.string t142,.int .i64 0,.string (⟨#[]⟩ : ByteArray),.bool false]) ?_ 1 _ rfl;refine KU ?_;refine blk_put (cs:=#[.string (⟨#[]⟩ : ByteArray),.int .i64 0,.string (⟨#[]⟩ : ByteArray),.bool false]) ?_ 0 _ rfl;refine KU ?_;exact BK147.out) hb);replace HB:=aq (below_step bH hb);(try clear hb);(try clear hb2);(try clear hk);(try clear hi))|((with_reducible refine gate_dst (N:=15) rfl ?_);(try (refine gate_guard (by rfl) ?_;dsimp only));refine box_event rfl (N:=15) rfl (cs:=#[.string (⟨#[]⟩ : ByteArray),.string (⟨#[]⟩ : ByteArray),.string (⟨#[]⟩ : ByteArray)]) (t:=25) gS ?_;intro gb152 hg w39 hbox hb;have BK152:=aq (hbox);have GE152:=aq ((GN hg : w.heap.size ≤ gb152));have NB127_152:=aq (NL hg BK127);have NB152_127:=aq (NG hg BK127);have NB128_152:=aq (NL hg BK128);have NB152_128:=aq (NG hg BK128);have NB137_152:=aq (NL hg BK137);have NB152_137:=aq (NG hg BK137);have NB141_152:=aq (NL hg BK141);have NB152_141:=aq (NG hg BK141);have NB147_152:=aq (NL hg BK147);have NB152_147:=aq (NG hg BK147);replace HO133:=RN HO133 hb;replace BK127:=KN BK127 hb;replace BK128:=KN BK128 hb;replace BK137:=KN BK137 hb;replace BK141:=KN BK141 hb;replace BK147:=KN BK147 hb;replace HB:=aq (below_step bH hb);clear hb hbox hg;have hnb40:=NB152_127.out;have hnc40:=NB127_152.out;have hnb41:=NB152_128.out;have hnc41:=NB128_152.out;have hnb42:=NB152_137.out;have hnc42:=NB137_152.out;have hnb43:=NB152_141.out;have hnc43:=NB141_152.out;have hnb44:=NB152_147.out;have hnc44:=NB147_152.out;have hcz45_0 : w39.cell? ⟨gb152,0,none⟩ = some (.string (⟨#[]⟩ : ByteArray)):=(blk_cell BK152.out 0).trans rfl;have hcz45_1 : w39.cell? ⟨gb152,1,none⟩ = some (.string (⟨#[]⟩ : ByteArray)):=(blk_cell BK152.out 1).trans rfl;have hcz45_2 : w39.cell? ⟨gb152,2,none⟩ = some (.string (⟨#[]⟩ : ByteArray)):=(blk_cell BK152.out 2).trans rfl;have hfz45_0:=blk_frozen BK152.out 0;have hfz45_1:=blk_frozen BK152.out 1;have hfz45_2:=blk_frozen BK152.out 2;have hcz46_0 : w39.cell? ⟨gb128,0,none⟩ = some (.int .i64 a1_0):=(blk_cell BK128.out 0).trans rfl;have hcz46_1 : w39.cell? ⟨gb128,1,none⟩ = some (.int .i64 a1_1):=(blk_cell BK128.out 1).trans rfl;have hcz46_2 : w39.cell? ⟨gb128,2,none⟩ = some (.int .i64 a1_2):=(blk_cell BK128.out 2).trans rfl;have hcz46_3 : w39.cell? ⟨gb128,3,none⟩ = some (.int .i64 a1_3):=(blk_cell BK128.out 3).trans rfl;have hcz46_4 : w39.cell? ⟨gb128,4,none⟩ = some (.int .i64 a1_4):=(blk_cell BK128.out 4).trans rfl;have hcz46_5 : w39.cell? ⟨gb128,5,none⟩ = some (.string a1_5):=(blk_cell BK128.out 5).trans rfl;have hcz46_6 : w39.cell? ⟨gb128,6,none⟩ = some (.string a1_6):=(blk_cell BK128.out 6).trans rfl;have hcz46_7 : w39.cell? ⟨gb128,7,none⟩ = some (.string a1_7):=(blk_cell BK128.out 7).trans rfl;have hcz46_8 : w39.cell? ⟨gb128,8,none⟩ = some (.slice A1_8 l1_8.length c1_8):=(blk_cell BK128.out 8).trans rfl;have hfz46_0:=blk_frozen BK128.out 0;have hfz46_1:=blk_frozen BK128.out 1;have hfz46_2:=blk_frozen BK128.out 2;have hfz46_3:=blk_frozen BK128.out 3;have hfz46_4:=blk_frozen BK128.out 4;have hfz46_5:=blk_frozen BK128.out 5;have hfz46_6:=blk_frozen BK128.out 6;have hfz46_7:=blk_frozen BK128.out 7;have hfz46_8:=blk_frozen BK128.out 8))
 (try simp only [Act.put,List.setIfInBounds_toArray,List.set_cons_zero,List.set_cons_succ])
 go_cut [59] (fun v59 wc => ∃ (kq : Nat) (x59_7 : Bool),v59 = .bool x59_7 ∧ Aside0 (sr25_Known.j0 kq t129 t130 t140 t151 a1_0 x59_7 a1_0 a1_1 a1_2 a1_3 a1_4 a1_5 a1_6 a1_7 l1_8 t134 t135 t142 t143 t144 t145 = some (r1,r2)) ∧ Aside0 (kq ≤ k) ∧ Aside0 (wc.heap[gb127]? = some (.cells #[(.slice A0_0 l0_0.length c0_0),(.slice A0_1 l0_1.length c0_1),.string a0_2,.string a0_3,.string a0_4] 27 (0,0))) ∧ Aside0 (wc.heap[gb128]? = some (.cells #[.int .i64 a1_0,.int .i64 a1_1,.int .i64 a1_2,.int .i64 a1_3,.int .i64 a1_4,.string a1_5,.string a1_6,.string a1_7,(.slice A1_8 l1_8.length c1_8)] 74 (0,0))) ∧ Aside0 (wc.heap[gb137]? = some (.cells #[.int .i64 t134,.string t135] 97 (0,0))) ∧ Aside0 (wc.heap[gb141]? = some (.cells #[.string t138,.string t139] 44 (0,0))) ∧ Aside0 (wc.heap[gb147]? = some (.cells #[.string t142,.int .i64 t143,.string t144,.bool t145] 103 (0,0))) ∧ Aside0 (wc.heap[gb152]? = some (.cells #[.string t148,.string t149,.string t150] 25 (0,0))) ∧ Aside0 (Below w.heap.size w wc))
 case first =>
  have H:=HC8.out
  clear HC8
  by_cases c47 : a1_0 = 4
  · rw [if_pos c47] at H
    have c47b0 : (a1_0 == 4) = true:=beq_iff_eq.mpr c47
    have c47b1 : (a1_0 != 4) = false:=bne_eq_false_iff_eq.mpr c47
    clear c47
    (first|rw [c47b0]|rw [c47b1]|(simp only [i64_w,i32_w];rw [c47b0])|skip)
    have H':=aq H
    clear H
    go_wp2
    go_meet
    case rel => exact ⟨_,((a1_0 == 4)),eS,H',⟨by first|omega|exact Nat.le_refl _⟩,⟨by refine KU ?_;refine blk_far ?_ NB127_152.out _;refine KU ?_;refine blk_far ?_ NB127_152.out _;refine KU ?_;refine blk_far ?_ NB127_152.out _;refine KU ?_;exact BK127.out⟩,⟨by refine KU ?_;refine blk_far ?_ NB128_152.out _;refine KU ?_;refine blk_far ?_ NB128_152.out _;refine KU ?_;refine blk_far ?_ NB128_152.out _;refine KU ?_;exact BK128.out⟩,⟨by refine KU ?_;refine blk_far ?_ NB137_152.out _;refine KU ?_;refine blk_far ?_ NB137_152.out _;refine KU ?_;refine blk_far ?_ NB137_152.out _;refine KU ?_;exact BK137.out⟩,⟨by refine KU ?_;refine blk_far ?_ NB141_152.out _;refine KU ?_;refine blk_far ?_ NB141_152.out _;refine KU ?_;refine blk_far ?_ NB141_152.out _;refine KU ?_;exact BK141.out⟩,⟨by refine KU ?_;refine blk_far ?_ NB147_152.out _;refine KU ?_;refine blk_far ?_ NB147_152.out _;refine KU ?_;refine blk_far ?_ NB147_152.out _;refine KU ?_;exact BK147.out⟩,⟨by refine KU ?_;refine blk_put (cs:=#[.string t148,.string t149,.string (⟨#[]⟩ : ByteArray)]) ?_ 2 _ rfl;refine KU ?_;refine blk_put (cs:=#[.string t148,.string (⟨#[]⟩ : ByteArray),.string (⟨#[]⟩ : ByteArray)]) ?_ 1 _ rfl;refine KU ?_;refine blk_put (cs:=#[.string (⟨#[]⟩ : ByteArray),.string (⟨#[]⟩ : ByteArray),.string (⟨#[]⟩ : ByteArray)]) ?_ 0 _ rfl;refine KU ?_;exact BK152.out⟩,⟨bH⟩⟩
  rw [if_neg c47] at H
  have c47b0 : (a1_0 == 4) = false:=beq_eq_false_iff_ne.mpr c47
  have c47b1 : (a1_0 != 4) = true:=bne_iff_ne.mpr c47
  (first|rw [c47b0]|rw [c47b1]|(simp only [i64_w,i32_w];rw [c47b0])|skip)
  by_cases c48 : a1_0 = 9
  · rw [if_pos c48] at H
    have c48b0 : (a1_0 == 9) = true:=beq_iff_eq.mpr c48
    have c48b1 : (a1_0 != 9) = false:=bne_eq_false_iff_eq.mpr c48
    clear c48
    have H':=aq H
    clear H
    go_wp2
    go_meet
    case rel => exact ⟨_,((a1_0 == 9)),eS,H',⟨by first|omega|exact Nat.le_refl _⟩,⟨by refine KU ?_;refine blk_far ?_ NB127_152.out _;refine KU ?_;refine blk_far ?_ NB127_152.out _;refine KU ?_;refine blk_far ?_ NB127_152.out _;refine KU ?_;exact BK127.out⟩,⟨by refine KU ?_;refine blk_far ?_ NB128_152.out _;refine KU ?_;refine blk_far ?_ NB128_152.out _;refine KU ?_;refine blk_far ?_ NB128_152.out _;refine KU ?_;exact BK128.out⟩,⟨by refine KU ?_;refine blk_far ?_ NB137_152.out _;refine KU ?_;refine blk_far ?_ NB137_152.out _;refine KU ?_;refine blk_far ?_ NB137_152.out _;refine KU ?_;exact BK137.out⟩,⟨by refine KU ?_;refine blk_far ?_ NB141_152.out _;refine KU ?_;refine blk_far ?_ NB141_152.out _;refine KU ?_;refine blk_far ?_ NB141_152.out _;refine KU ?_;exact BK141.out⟩,⟨by refine KU ?_;refine blk_far ?_ NB147_152.out _;refine KU ?_;refine blk_far ?_ NB147_152.out _;refine KU ?_;refine blk_far ?_ NB147_152.out _;refine KU ?_;exact BK147.out⟩,⟨by refine KU ?_;refine blk_put (cs:=#[.string t148,.string t149,.string (⟨#[]⟩ : ByteArray)]) ?_ 2 _ rfl;refine KU ?_;refine blk_put (cs:=#[.string t148,.string (⟨#[]⟩ : ByteArray),.string (⟨#[]⟩ : ByteArray)]) ?_ 1 _ rfl;refine KU ?_;refine blk_put (cs:=#[.string (⟨#[]⟩ : ByteArray),.string (⟨#[]⟩ : ByteArray),.string (⟨#[]⟩ : ByteArray)]) ?_ 0 _ rfl;refine KU ?_;exact BK152.out⟩,⟨bH⟩⟩
  rw [if_neg c48] at H
  have c48b0 : (a1_0 == 9) = false:=beq_eq_false_iff_ne.mpr c48
  have c48b1 : (a1_0 != 9) = true:=bne_iff_ne.mpr c48
  by_cases c49 : a1_0 = 10
  · rw [if_pos c49] at H
    have c49b0 : (a1_0 == 10) = true:=beq_iff_eq.mpr c49
    have c49b1 : (a1_0 != 10) = false:=bne_eq_false_iff_eq.mpr c49
    clear c49
    have H':=aq H
    clear H
    go_wp2
    go_meet
    case rel => exact ⟨_,((a1_0 == 10)),eS,H',⟨by first|omega|exact Nat.le_refl _⟩,⟨by refine KU ?_;refine blk_far ?_ NB127_152.out _;refine KU ?_;refine blk_far ?_ NB127_152.out _;refine KU ?_;refine blk_far ?_ NB127_152.out _;refine KU ?_;exact BK127.out⟩,⟨by refine KU ?_;refine blk_far ?_ NB128_152.out _;refine KU ?_;refine blk_far ?_ NB128_152.out _;refine KU ?_;refine blk_far ?_ NB128_152.out _;refine KU ?_;exact BK128.out⟩,⟨by refine KU ?_;refine blk_far ?_ NB137_152.out _;refine KU ?_;refine blk_far ?_ NB137_152.out _;refine KU ?_;refine blk_far ?_ NB137_152.out _;refine KU ?_;exact BK137.out⟩,⟨by refine KU ?_;refine blk_far ?_ NB141_152.out _;refine KU ?_;refine blk_far ?_ NB141_152.out _;refine KU ?_;refine blk_far ?_ NB141_152.out _;refine KU ?_;exact BK141.out⟩,⟨by refine KU ?_;refine blk_far ?_ NB147_152.out _;refine KU ?_;refine blk_far ?_ NB147_152.out _;refine KU ?_;refine blk_far ?_ NB147_152.out _;refine KU ?_;exact BK147.out⟩,⟨by refine KU ?_;refine blk_put (cs:=#[.string t148,.string t149,.string (⟨#[]⟩ : ByteArray)]) ?_ 2 _ rfl;refine KU ?_;refine blk_put (cs:=#[.string t148,.string (⟨#[]⟩ : ByteArray),.string (⟨#[]⟩ : ByteArray)]) ?_ 1 _ rfl;refine KU ?_;refine blk_put (cs:=#[.string (⟨#[]⟩ : ByteArray),.string (⟨#[]⟩ : ByteArray),.string (⟨#[]⟩ : ByteArray)]) ?_ 0 _ rfl;refine KU ?_;exact BK152.out⟩,⟨bH⟩⟩
  rw [if_neg c49] at H
  have c49b0 : (a1_0 == 10) = false:=beq_eq_false_iff_ne.mpr c49
  have c49b1 : (a1_0 != 10) = true:=bne_iff_ne.mpr c49
  by_cases c50 : a1_0 = 11
  · rw [if_pos c50] at H
    have c50b0 : (a1_0 == 11) = true:=beq_iff_eq.mpr c50
    have c50b1 : (a1_0 != 11) = false:=bne_eq_false_iff_eq.mpr c50
    clear c50
    have H':=aq H
    clear H
    go_wp2
    go_meet
    case rel => exact ⟨_,((a1_0 == 11)),eS,H',⟨by first|omega|exact Nat.le_refl _⟩,⟨by refine KU ?_;refine blk_far ?_ NB127_152.out _;refine KU ?_;refine blk_far ?_ NB127_152.out _;refine KU ?_;refine blk_far ?_ NB127_152.out _;refine KU ?_;exact BK127.out⟩,⟨by refine KU ?_;refine blk_far ?_ NB128_152.out _;refine KU ?_;refine blk_far ?_ NB128_152.out _;refine KU ?_;refine blk_far ?_ NB128_152.out _;refine KU ?_;exact BK128.out⟩,⟨by refine KU ?_;refine blk_far ?_ NB137_152.out _;refine KU ?_;refine blk_far ?_ NB137_152.out _;refine KU ?_;refine blk_far ?_ NB137_152.out _;refine KU ?_;exact BK137.out⟩,⟨by refine KU ?_;refine blk_far ?_ NB141_152.out _;refine KU ?_;refine blk_far ?_ NB141_152.out _;refine KU ?_;refine blk_far ?_ NB141_152.out _;refine KU ?_;exact BK141.out⟩,⟨by refine KU ?_;refine blk_far ?_ NB147_152.out _;refine KU ?_;refine blk_far ?_ NB147_152.out _;refine KU ?_;refine blk_far ?_ NB147_152.out _;refine KU ?_;exact BK147.out⟩,⟨by refine KU ?_;refine blk_put (cs:=#[.string t148,.string t149,.string (⟨#[]⟩ : ByteArray)]) ?_ 2 _ rfl;refine KU ?_;refine blk_put (cs:=#[.string t148,.string (⟨#[]⟩ : ByteArray),.string (⟨#[]⟩ : ByteArray)]) ?_ 1 _ rfl;refine KU ?_;refine blk_put (cs:=#[.string (⟨#[]⟩ : ByteArray),.string (⟨#[]⟩ : ByteArray),.string (⟨#[]⟩ : ByteArray)]) ?_ 0 _ rfl;refine KU ?_;exact BK152.out⟩,⟨bH⟩⟩
  rw [if_neg c50] at H
  have c50b0 : (a1_0 == 11) = false:=beq_eq_false_iff_ne.mpr c50
  have c50b1 : (a1_0 != 11) = true:=bne_iff_ne.mpr c50
  by_cases c51 : a1_0 = 13
  · rw [if_pos c51] at H
    have c51b0 : (a1_0 == 13) = true:=beq_iff_eq.mpr c51
    have c51b1 : (a1_0 != 13) = false:=bne_eq_false_iff_eq.mpr c51
    clear c51
    have H':=aq H
    clear H
    go_wp2
    go_meet
    case rel => exact ⟨_,((a1_0 == 13)),eS,H',⟨by first|omega|exact Nat.le_refl _⟩,⟨by refine KU ?_;refine blk_far ?_ NB127_152.out _;refine KU ?_;refine blk_far ?_ NB127_152.out _;refine KU ?_;refine blk_far ?_ NB127_152.out _;refine KU ?_;exact BK127.out⟩,⟨by refine KU ?_;refine blk_far ?_ NB128_152.out _;refine KU ?_;refine blk_far ?_ NB128_152.out _;refine KU ?_;refine blk_far ?_ NB128_152.out _;refine KU ?_;exact BK128.out⟩,⟨by refine KU ?_;refine blk_far ?_ NB137_152.out _;refine KU ?_;refine blk_far ?_ NB137_152.out _;refine KU ?_;refine blk_far ?_ NB137_152.out _;refine KU ?_;exact BK137.out⟩,⟨by refine KU ?_;refine blk_far ?_ NB141_152.out _;refine KU ?_;refine blk_far ?_ NB141_152.out _;refine KU ?_;refine blk_far ?_ NB141_152.out _;refine KU ?_;exact BK141.out⟩,⟨by refine KU ?_;refine blk_far ?_ NB147_152.out _;refine KU ?_;refine blk_far ?_ NB147_152.out _;refine KU ?_;refine blk_far ?_ NB147_152.out _;refine KU ?_;exact BK147.out⟩,⟨by refine KU ?_;refine blk_put (cs:=#[.string t148,.string t149,.string (⟨#[]⟩ : ByteArray)]) ?_ 2 _ rfl;refine KU ?_;refine blk_put (cs:=#[.string t148,.string (⟨#[]⟩ : ByteArray),.string (⟨#[]⟩ : ByteArray)]) ?_ 1 _ rfl;refine KU ?_;refine blk_put (cs:=#[.string (⟨#[]⟩ : ByteArray),.string (⟨#[]⟩ : ByteArray),.string (⟨#[]⟩ : ByteArray)]) ?_ 0 _ rfl;refine KU ?_;exact BK152.out⟩,⟨bH⟩⟩
  rw [if_neg c51] at H
  have c51b0 : (a1_0 == 13) = false:=beq_eq_false_iff_ne.mpr c51
  have c51b1 : (a1_0 != 13) = true:=bne_iff_ne.mpr c51
  by_cases c52 : a1_0 = 25
  rotate_left
  · rw [if_neg c52] at H
    have c52b0 : (a1_0 == 25) = false:=beq_eq_false_iff_ne.mpr c52
    have c52b1 : (a1_0 != 25) = true:=bne_iff_ne.mpr c52
    have H':=aq H
    clear H
    go_wp2
    go_meet
    case rel => exact ⟨_,((a1_0 == 28)),eS,H',⟨by first|omega|exact Nat.le_refl _⟩,⟨by refine KU ?_;refine blk_far ?_ NB127_152.out _;refine KU ?_;refine blk_far ?_ NB127_152.out _;refine KU ?_;refine blk_far ?_ NB127_152.out _;refine KU ?_;exact BK127.out⟩,⟨by refine KU ?_;refine blk_far ?_ NB128_152.out _;refine KU ?_;refine blk_far ?_ NB128_152.out _;refine KU ?_;refine blk_far ?_ NB128_152.out _;refine KU ?_;exact BK128.out⟩,⟨by refine KU ?_;refine blk_far ?_ NB137_152.out _;refine KU ?_;refine blk_far ?_ NB137_152.out _;refine KU ?_;refine blk_far ?_ NB137_152.out _;refine KU ?_;exact BK137.out⟩,⟨by refine KU ?_;refine blk_far ?_ NB141_152.out _;refine KU ?_;refine blk_far ?_ NB141_152.out _;refine KU ?_;refine blk_far ?_ NB141_152.out _;refine KU ?_;exact BK141.out⟩,⟨by refine KU ?_;refine blk_far ?_ NB147_152.out _;refine KU ?_;refine blk_far ?_ NB147_152.out _;refine KU ?_;refine blk_far ?_ NB147_152.out _;refine KU ?_;exact BK147.out⟩,⟨by refine KU ?_;refine blk_put (cs:=#[.string t148,.string t149,.string (⟨#[]⟩ : ByteArray)]) ?_ 2 _ rfl;refine KU ?_;refine blk_put (cs:=#[.string t148,.string (⟨#[]⟩ : ByteArray),.string (⟨#[]⟩ : ByteArray)]) ?_ 1 _ rfl;refine KU ?_;refine blk_put (cs:=#[.string (⟨#[]⟩ : ByteArray),.string (⟨#[]⟩ : ByteArray),.string (⟨#[]⟩ : ByteArray)]) ?_ 0 _ rfl;refine KU ?_;exact BK152.out⟩,⟨bH⟩⟩
  rw [if_pos c52] at H
  have c52b0 : (a1_0 == 25) = true:=beq_iff_eq.mpr c52
  have c52b1 : (a1_0 != 25) = false:=bne_eq_false_iff_eq.mpr c52
  clear c52
  have H':=aq H
  clear H
  go_wp2
  go_meet
  case rel => exact ⟨_,((a1_0 == 25)),eS,H',⟨by first|omega|exact Nat.le_refl _⟩,⟨by refine KU ?_;refine blk_far ?_ NB127_152.out _;refine KU ?_;refine blk_far ?_ NB127_152.out _;refine KU ?_;refine blk_far ?_ NB127_152.out _;refine KU ?_;exact BK127.out⟩,⟨by refine KU ?_;refine blk_far ?_ NB128_152.out _;refine KU ?_;refine blk_far ?_ NB128_152.out _;refine KU ?_;refine blk_far ?_ NB128_152.out _;refine KU ?_;exact BK128.out⟩,⟨by refine KU ?_;refine blk_far ?_ NB137_152.out _;refine KU ?_;refine blk_far ?_ NB137_152.out _;refine KU ?_;refine blk_far ?_ NB137_152.out _;refine KU ?_;exact BK137.out⟩,⟨by refine KU ?_;refine blk_far ?_ NB141_152.out _;refine KU ?_;refine blk_far ?_ NB141_152.out _;refine KU ?_;refine blk_far ?_ NB141_152.out _;refine KU ?_;exact BK141.out⟩,⟨by refine KU ?_;refine blk_far ?_ NB147_152.out _;refine KU ?_;refine blk_far ?_ NB147_152.out _;refine KU ?_;refine blk_far ?_ NB147_152.out _;refine KU ?_;exact BK147.out⟩,⟨by refine KU ?_;refine blk_put (cs:=#[.string t148,.string t149,.string (⟨#[]⟩ : ByteArray)]) ?_ 2 _ rfl;refine KU ?_;refine blk_put (cs:=#[.string t148,.string (⟨#[]⟩ : ByteArray),.string (⟨#[]⟩ : ByteArray)]) ?_ 1 _ rfl;refine KU ?_;refine blk_put (cs:=#[.string (⟨#[]⟩ : ByteArray),.string (⟨#[]⟩ : ByteArray),.string (⟨#[]⟩ : ByteArray)]) ?_ 0 _ rfl;refine KU ?_;exact BK152.out⟩,⟨bH⟩⟩
 case rest =>
 clear HC8
 (try clear hcz12_0);(try clear hcz12_1);(try clear hcz12_2);(try clear hcz12_3);(try clear hcz12_4);(try clear hcz12_5);(try clear hcz12_6);(try clear hcz12_7);(try clear hcz12_8);(try clear hcz14_0);(try clear hcz14_1);(try clear hcz14_2);(try clear hcz14_3);(try clear hcz14_4);(try clear hcz14_5);(try clear hcz14_6);(try clear hcz14_7);(try clear hcz14_8);(try clear hcz19_0);(try clear hcz19_1);(try clear hcz20_0);(try clear hcz20_1);(try clear hcz20_2);(try clear hcz20_3);(try clear hcz20_4);(try clear hcz21_0);(try clear hcz21_1);(try clear hcz21_2);(try clear hcz21_3);(try clear hcz21_4);(try clear hcz21_5);(try clear hcz21_6);(try clear hcz21_7);(try clear hcz21_8);(try clear hcz27_0);(try clear hcz27_1);(try clear hcz28_0);(try clear hcz28_1);(try clear hcz28_2);(try clear hcz28_3);(try clear hcz28_4);(try clear hcz35_0);(try clear hcz35_1)
 (try clear hcz35_2);(try clear hcz35_3);(try clear hcz36_0);(try clear hcz36_1);(try clear hcz36_2);(try clear hcz36_3);(try clear hcz36_4);(try clear hcz37_0);(try clear hcz37_1);(try clear hcz37_2);(try clear hcz37_3);(try clear hcz37_4);(try clear hcz37_5);(try clear hcz37_6);(try clear hcz37_7);(try clear hcz37_8);(try clear hcz45_0);(try clear hcz45_1);(try clear hcz45_2);(try clear hcz46_0);(try clear hcz46_1);(try clear hcz46_2);(try clear hcz46_3);(try clear hcz46_4);(try clear hcz46_5);(try clear hcz46_6);(try clear hcz46_7);(try clear hcz46_8);(try clear hfz12_0);(try clear hfz12_1);(try clear hfz12_2);(try clear hfz12_3);(try clear hfz12_4);(try clear hfz12_5);(try clear hfz12_6);(try clear hfz12_7);(try clear hfz12_8);(try clear hfz14_0);(try clear hfz14_1);(try clear hfz14_2);(try clear hfz14_3);(try clear hfz14_4);(try clear hfz14_5)
 (try clear hfz14_6);(try clear hfz14_7);(try clear hfz14_8);(try clear hfz19_0);(try clear hfz19_1);(try clear hfz20_0);(try clear hfz20_1);(try clear hfz20_2);(try clear hfz20_3);(try clear hfz20_4);(try clear hfz21_0);(try clear hfz21_1);(try clear hfz21_2);(try clear hfz21_3);(try clear hfz21_4);(try clear hfz21_5);(try clear hfz21_6);(try clear hfz21_7);(try clear hfz21_8);(try clear hfz27_0);(try clear hfz27_1);(try clear hfz28_0);(try clear hfz28_1);(try clear hfz28_2);(try clear hfz28_3);(try clear hfz28_4);(try clear hfz35_0);(try clear hfz35_1);(try clear hfz35_2);(try clear hfz35_3);(try clear hfz36_0);(try clear hfz36_1);(try clear hfz36_2);(try clear hfz36_3);(try clear hfz36_4);(try clear hfz37_0);(try clear hfz37_1);(try clear hfz37_2);(try clear hfz37_3);(try clear hfz37_4);(try clear hfz37_5);(try clear hfz37_6);(try clear hfz37_7)
 (try clear hfz37_8);(try clear hfz45_0);(try clear hfz45_1);(try clear hfz45_2);(try clear hfz46_0);(try clear hfz46_1);(try clear hfz46_2);(try clear hfz46_3);(try clear hfz46_4);(try clear hfz46_5);(try clear hfz46_6);(try clear hfz46_7);(try clear hfz46_8)
 obtain ⟨kq,x59_7,rfl,HA,HJ7,BK127,BK128,BK137,BK141,BK147,BK152,HB⟩:=hcut
 cases kq with
 | zero => exact absurd HA.out (by simp [sr25_Known.j0])
 | succ kj7 =>
 have H:=HA.out
 clear HA
 simp only [sr25_Known.j0] at H
 by_cases c53 : x59_7 = true
 · subst c53
   have H1 : (some (t129,t130)) = some (r1,r2):=by rw [if_pos rfl] at H;exact H
   clear H
   have H:=H1
   clear H1
   simp only [Option.some.injEq,Prod.mk.injEq] at H
   obtain ⟨rfl,rfl⟩:=H
   go_wp2
   go_ret2
   exact ⟨eR,bH⟩
 replace c53:=Bool.eq_false_iff.mpr c53
 subst c53
 have H1 : (if a1_0 = 15 then (sr25_Known.j1 kj7 t129 t130 t140 t151 a1_0 (a1_0 == 15) a1_0 a1_1 a1_2 a1_3 a1_4 a1_5 a1_6 a1_7 l1_8 t134 t135 t142 t143 t144 t145) else (sr25_Known.j1 kj7 t129 t130 t140 t151 a1_0 (a1_0 == 17) a1_0 a1_1 a1_2 a1_3 a1_4 a1_5 a1_6 a1_7 l1_8 t134 t135 t142 t143 t144 t145)) = some (r1,r2):=by rw [if_neg (show ¬ (false = true) by decide)] at H;exact H
 clear H
 have H:=H1
 clear H1
 have HC54:=aq H
 clear H
 go_upto_if 69 with (fail)
 go_cut [69] (fun v69 wc => ∃ (kq : Nat) (x69_53 : Bool),v69 = .bool x69_53 ∧ Aside0 (sr25_Known.j1 kq t129 t130 t140 t151 a1_0 x69_53 a1_0 a1_1 a1_2 a1_3 a1_4 a1_5 a1_6 a1_7 l1_8 t134 t135 t142 t143 t144 t145 = some (r1,r2)) ∧ Aside0 (kq ≤ kj7) ∧ Aside0 (wc.heap[gb127]? = some (.cells #[(.slice A0_0 l0_0.length c0_0),(.slice A0_1 l0_1.length c0_1),.string a0_2,.string a0_3,.string a0_4] 27 (0,0))) ∧ Aside0 (wc.heap[gb128]? = some (.cells #[.int .i64 a1_0,.int .i64 a1_1,.int .i64 a1_2,.int .i64 a1_3,.int .i64 a1_4,.string a1_5,.string a1_6,.string a1_7,(.slice A1_8 l1_8.length c1_8)] 74 (0,0))) ∧ Aside0 (wc.heap[gb137]? = some (.cells #[.int .i64 t134,.string t135] 97 (0,0))) ∧ Aside0 (wc.heap[gb141]? = some (.cells #[.string t138,.string t139] 44 (0,0))) ∧ Aside0 (wc.heap[gb147]? = some (.cells #[.string t142,.int .i64 t143,.string t144,.bool t145] 103 (0,0))) ∧ Aside0 (wc.heap[gb152]? = some (.cells #[.string t148,.string t149,.string t150] 25 (0,0))) ∧ Aside0 (Below w.heap.size w wc))
 case first =>
  have H:=HC54.out
  clear HC54
  by_cases c55 : a1_0 = 15
  rotate_left
  · rw [if_neg c55] at H
    have c55b0 : (a1_0 == 15) = false:=beq_eq_false_iff_ne.mpr c55
    have c55b1 : (a1_0 != 15) = true:=bne_iff_ne.mpr c55
    (first|rw [c55b0]|rw [c55b1]|(simp only [i64_w,i32_w];rw [c55b0])|skip)
    have H':=aq H
    clear H
    go_wp2
    go_meet
    case rel => exact ⟨_,((a1_0 == 17)),eS,H',⟨by have:=HJ7.out;first|omega|exact Nat.le_refl _⟩,⟨KU BK127.out⟩,⟨KU BK128.out⟩,⟨KU BK137.out⟩,⟨KU BK141.out⟩,⟨KU BK147.out⟩,⟨KU BK152.out⟩,⟨bH⟩⟩
  rw [if_pos c55] at H
  have c55b0 : (a1_0 == 15) = true:=beq_iff_eq.mpr c55
  have c55b1 : (a1_0 != 15) = false:=bne_eq_false_iff_eq.mpr c55
  clear c55
  (first|rw [c55b0]|rw [c55b1]|(simp only [i64_w,i32_w];rw [c55b0])|skip)
  have H':=aq H
  clear H
  go_wp2
  go_meet
  case rel => exact ⟨_,((a1_0 == 15)),eS,H',⟨by have:=HJ7.out;first|omega|exact Nat.le_refl _⟩,⟨KU BK127.out⟩,⟨KU BK128.out⟩,⟨KU BK137.out⟩,⟨KU BK141.out⟩,⟨KU BK147.out⟩,⟨KU BK152.out⟩,⟨bH⟩⟩
 case rest =>
 clear HC54
 (try clear c53);(try clear hcz12_0);(try clear hcz12_1);(try clear hcz12_2);(try clear hcz12_3);(try clear hcz12_4);(try clear hcz12_5);(try clear hcz12_6);(try clear hcz12_7);(try clear hcz12_8);(try clear hcz14_0);(try clear hcz14_1);(try clear hcz14_2);(try clear hcz14_3);(try clear hcz14_4);(try clear hcz14_5);(try clear hcz14_6);(try clear hcz14_7);(try clear hcz14_8);(try clear hcz19_0);(try clear hcz19_1);(try clear hcz20_0);(try clear hcz20_1);(try clear hcz20_2);(try clear hcz20_3);(try clear hcz20_4);(try clear hcz21_0);(try clear hcz21_1);(try clear hcz21_2);(try clear hcz21_3);(try clear hcz21_4);(try clear hcz21_5);(try clear hcz21_6);(try clear hcz21_7);(try clear hcz21_8);(try clear hcz27_0);(try clear hcz27_1);(try clear hcz28_0);(try clear hcz28_1);(try clear hcz28_2);(try clear hcz28_3);(try clear hcz28_4);(try clear hcz35_0)
 (try clear hcz35_1);(try clear hcz35_2);(try clear hcz35_3);(try clear hcz36_0);(try clear hcz36_1);(try clear hcz36_2);(try clear hcz36_3);(try clear hcz36_4);(try clear hcz37_0);(try clear hcz37_1);(try clear hcz37_2);(try clear hcz37_3);(try clear hcz37_4);(try clear hcz37_5);(try clear hcz37_6);(try clear hcz37_7);(try clear hcz37_8);(try clear hcz45_0);(try clear hcz45_1);(try clear hcz45_2);(try clear hcz46_0);(try clear hcz46_1);(try clear hcz46_2);(try clear hcz46_3);(try clear hcz46_4);(try clear hcz46_5);(try clear hcz46_6);(try clear hcz46_7);(try clear hcz46_8);(try clear hfz12_0);(try clear hfz12_1);(try clear hfz12_2);(try clear hfz12_3);(try clear hfz12_4);(try clear hfz12_5);(try clear hfz12_6);(try clear hfz12_7);(try clear hfz12_8);(try clear hfz14_0);(try clear hfz14_1);(try clear hfz14_2);(try clear hfz14_3);(try clear hfz14_4)
 (try clear hfz14_5);(try clear hfz14_6);(try clear hfz14_7);(try clear hfz14_8);(try clear hfz19_0);(try clear hfz19_1);(try clear hfz20_0);(try clear hfz20_1);(try clear hfz20_2);(try clear hfz20_3);(try clear hfz20_4);(try clear hfz21_0);(try clear hfz21_1);(try clear hfz21_2);(try clear hfz21_3);(try clear hfz21_4);(try clear hfz21_5);(try clear hfz21_6);(try clear hfz21_7);(try clear hfz21_8);(try clear hfz27_0);(try clear hfz27_1);(try clear hfz28_0);(try clear hfz28_1);(try clear hfz28_2);(try clear hfz28_3);(try clear hfz28_4);(try clear hfz35_0);(try clear hfz35_1);(try clear hfz35_2);(try clear hfz35_3);(try clear hfz36_0);(try clear hfz36_1);(try clear hfz36_2);(try clear hfz36_3);(try clear hfz36_4);(try clear hfz37_0);(try clear hfz37_1);(try clear hfz37_2);(try clear hfz37_3);(try clear hfz37_4);(try clear hfz37_5);(try clear hfz37_6)
 (try clear hfz37_7);(try clear hfz37_8);(try clear hfz45_0);(try clear hfz45_1);(try clear hfz45_2);(try clear hfz46_0);(try clear hfz46_1);(try clear hfz46_2);(try clear hfz46_3);(try clear hfz46_4);(try clear hfz46_5);(try clear hfz46_6);(try clear hfz46_7);(try clear hfz46_8)
 obtain ⟨kq,x69_53,rfl,HA,HJ53,BK127,BK128,BK137,BK141,BK147,BK152,HB⟩:=hcut
 cases kq with
 | zero => exact absurd HA.out (by simp [sr25_Known.j1])
 | succ kj53 =>
 have H:=HA.out
 clear HA
 simp only [sr25_Known.j1] at H
 by_cases c56 : x69_53 = true
 · subst c56
   have H1 : (if t130 = true then (if t140 = true then ((sr06_IsRef.f t143 t144).bind fun t153 => (some (t129,t153))) else (some (t129,false))) else (some (t129,false))) = some (r1,r2):=by rw [if_pos rfl] at H;exact H
   clear H
   have H:=H1
   clear H1
   by_cases c57 : t130 = true
   rotate_left
   · replace c57:=Bool.eq_false_iff.mpr c57
     subst c57
     have H1 : (some (t129,false)) = some (r1,r2):=by rw [if_neg (show ¬ (false = true) by decide)] at H;exact H
     clear H
     have H:=H1
     clear H1
     simp only [Option.some.injEq,Prod.mk.injEq] at H
     obtain ⟨rfl,rfl⟩:=H
     go_wp2
     go_ret2
     exact ⟨eR,bH⟩
   subst c57
   have H1 : (if t140 = true then ((sr06_IsRef.f t143 t144).bind fun t153 => (some (t129,t153))) else (some (t129,false))) = some (r1,r2):=by rw [if_pos rfl] at H;exact H
   clear H
   have H:=H1
   clear H1
   by_cases c58 : t140 = true
   rotate_left
   · replace c58:=Bool.eq_false_iff.mpr c58
     subst c58
     have H1 : (some (t129,false)) = some (r1,r2):=by rw [if_neg (show ¬ (false = true) by decide)] at H;exact H
     clear H
     have H:=H1
     clear H1
     simp only [Option.some.injEq,Prod.mk.injEq] at H
     obtain ⟨rfl,rfl⟩:=H
     go_wp2
     go_ret2
     exact ⟨eR,bH⟩
   subst c58
   have H1 : ((sr06_IsRef.f t143 t144).bind fun t153 => (some (t129,t153))) = some (r1,r2):=by rw [if_pos rfl] at H;exact H
   clear H
   have H:=H1
   clear H1
   replace H:=Option.bind_eq_some_iff.mp H
   obtain ⟨t153,A590,H⟩:=H
   have A59:=aq A590
   clear A590
   simp only [Option.some.injEq,Prod.mk.injEq] at H
   obtain ⟨rfl,rfl⟩:=H
   have hnb60:=NB147_127.out
   have hnc60:=NB127_147.out
   have hnb61:=NB147_128.out
   have hnc61:=NB128_147.out
   have hnb62:=NB147_137.out
   have hnc62:=NB137_147.out
   have hnb63:=NB147_141.out
   have hnc63:=NB141_147.out
   have hnb64:=NB147_152.out
   have hnc64:=NB152_147.out
   have hcz65_0 : wc.cell? ⟨gb147,0,none⟩ = some (.string t142):=(blk_cell BK147.out 0).trans rfl
   have hcz65_1 : wc.cell? ⟨gb147,1,none⟩ = some (.int .i64 t143):=(blk_cell BK147.out 1).trans rfl
   have hcz65_2 : wc.cell? ⟨gb147,2,none⟩ = some (.string t144):=(blk_cell BK147.out 2).trans rfl
   have hcz65_3 : wc.cell? ⟨gb147,3,none⟩ = some (.bool t145):=(blk_cell BK147.out 3).trans rfl
   have hfz65_0:=blk_frozen BK147.out 0
   have hfz65_1:=blk_frozen BK147.out 1
   have hfz65_2:=blk_frozen BK147.out 2
   have hfz65_3:=blk_frozen BK147.out 3
   go_wp2_with (first|(go_at_call 52;(with_reducible refine (sr06_IsRef.calls t143 t144 t153 _ A59.out).mono ?_);rintro e w66 ⟨rfl,hb⟩;replace BK127:=KN BK127 hb;replace BK128:=KN BK128 hb;replace BK137:=KN BK137 hb;replace BK141:=KN BK141 hb;replace BK147:=KN BK147 hb;replace BK152:=KN BK152 hb;replace HB:=aq (below_step bH hb);(try clear hb);(try clear hb2);(try clear hk);(try clear hi)))
   go_ret2
   exact ⟨eR,bH⟩
 replace c56:=Bool.eq_false_iff.mpr c56
 subst c56
 have H1 : (if a1_0 = 19 then (if t130 = true then (if t151 = true then ((sr06_IsRef.f t134 t135).bind fun t154 => (some (t129,t154))) else (some (t129,false))) else (some (t129,false))) else (if a1_0 = 20 then (if t130 = true then (if (l1_8.length : Int) > 0 then ((sr06_IsRef.f t134 t135).bind fun t155 => (some (t129,t155))) else (some (t129,false))) else (some (t129,false))) else (if a1_0 = 21 then (if t130 = true then (if (l1_8.length : Int) > 0 then ((sr06_IsRef.f t134 t135).bind fun t156 => (some (t129,t156))) else (some (t129,false))) else (some (t129,false))) else (some (0,false))))) = some (r1,r2):=by rw [if_neg (show ¬ (false = true) by decide)] at H;exact H
 clear H
 have H:=H1
 clear H1
 by_cases c67 : a1_0 = 19
 · rw [if_pos c67] at H
   have c67b0 : (a1_0 == 19) = true:=beq_iff_eq.mpr c67
   have c67b1 : (a1_0 != 19) = false:=bne_eq_false_iff_eq.mpr c67
   clear c67
   by_cases c68 : t130 = true
   rotate_left
   · replace c68:=Bool.eq_false_iff.mpr c68
     subst c68
     have H1 : (some (t129,false)) = some (r1,r2):=by rw [if_neg (show ¬ (false = true) by decide)] at H;exact H
     clear H
     have H:=H1
     clear H1
     simp only [Option.some.injEq,Prod.mk.injEq] at H
     obtain ⟨rfl,rfl⟩:=H
     go_wp2
     go_ret2
     exact ⟨eR,bH⟩
   subst c68
   have H1 : (if t151 = true then ((sr06_IsRef.f t134 t135).bind fun t154 => (some (t129,t154))) else (some (t129,false))) = some (r1,r2):=by rw [if_pos rfl] at H;exact H
   clear H
   have H:=H1
   clear H1
   by_cases c69 : t151 = true
   rotate_left
   · replace c69:=Bool.eq_false_iff.mpr c69
     subst c69
     have H1 : (some (t129,false)) = some (r1,r2):=by rw [if_neg (show ¬ (false = true) by decide)] at H;exact H
     clear H
     have H:=H1
     clear H1
     simp only [Option.some.injEq,Prod.mk.injEq] at H
     obtain ⟨rfl,rfl⟩:=H
     go_wp2
     go_ret2
     exact ⟨eR,bH⟩
   subst c69
   have H1 : ((sr06_IsRef.f t134 t135).bind fun t154 => (some (t129,t154))) = some (r1,r2):=by rw [if_pos rfl] at H;exact H
   clear H
   have H:=H1
   clear H1
   replace H:=Option.bind_eq_some_iff.mp H
   obtain ⟨t154,A700,H⟩:=H
   have A70:=aq A700
   clear A700
   simp only [Option.some.injEq,Prod.mk.injEq] at H
   obtain ⟨rfl,rfl⟩:=H
   have hnb71:=NB137_127.out
   have hnc71:=NB127_137.out
   have hnb72:=NB137_128.out
   have hnc72:=NB128_137.out
   have hnb73:=NB137_141.out
   have hnc73:=NB141_137.out
   have hnb74:=NB137_147.out
   have hnc74:=NB147_137.out
   have hnb75:=NB137_152.out
   have hnc75:=NB152_137.out
   have hcz76_0 : wc.cell? ⟨gb137,0,none⟩ = some (.int .i64 t134):=(blk_cell BK137.out 0).trans rfl
   have hcz76_1 : wc.cell? ⟨gb137,1,none⟩ = some (.string t135):=(blk_cell BK137.out 1).trans rfl
   have hfz76_0:=blk_frozen BK137.out 0
   have hfz76_1:=blk_frozen BK137.out 1
   go_wp2_with (first|(go_at_call 52;(with_reducible refine (sr06_IsRef.calls t134 t135 t154 _ A70.out).mono ?_);rintro e w77 ⟨rfl,hb⟩;replace BK127:=KN BK127 hb;replace BK128:=KN BK128 hb;replace BK137:=KN BK137 hb;replace BK141:=KN BK141 hb;replace BK147:=KN BK147 hb;replace BK152:=KN BK152 hb;replace HB:=aq (below_step bH hb);(try clear hb);(try clear hb2);(try clear hk);(try clear hi)))
   go_ret2
   exact ⟨eR,bH⟩
 rw [if_neg c67] at H
 have c67b0 : (a1_0 == 19) = false:=beq_eq_false_iff_ne.mpr c67
 have c67b1 : (a1_0 != 19) = true:=bne_iff_ne.mpr c67
 by_cases c78 : a1_0 = 20
 · rw [if_pos c78] at H
   have c78b0 : (a1_0 == 20) = true:=beq_iff_eq.mpr c78
   have c78b1 : (a1_0 != 20) = false:=bne_eq_false_iff_eq.mpr c78
   clear c78
   by_cases c79 : t130 = true
   rotate_left
   · replace c79:=Bool.eq_false_iff.mpr c79
     subst c79
     have H1 : (some (t129,false)) = some (r1,r2):=by rw [if_neg (show ¬ (false = true) by decide)] at H;exact H
     clear H
     have H:=H1
     clear H1
     simp only [Option.some.injEq,Prod.mk.injEq] at H
     obtain ⟨rfl,rfl⟩:=H
     go_wp2
     go_ret2
     exact ⟨eR,bH⟩
   subst c79
   have H1 : (if (l1_8.length : Int) > 0 then ((sr06_IsRef.f t134 t135).bind fun t155 => (some (t129,t155))) else (some (t129,false))) = some (r1,r2):=by rw [if_pos rfl] at H;exact H
   clear H
   have H:=H1
   clear H1
   by_cases c80 : (l1_8.length : Int) > 0
   rotate_left
   · rw [if_neg c80] at H
     have c80b0 : decide (0 < (l1_8.length : Int)) = false:=decide_eq_false c80
     have c80b1 : decide (0 < l1_8.length) = false:=decide_eq_false (by omega)
     clear c80
     simp only [Option.some.injEq,Prod.mk.injEq] at H
     obtain ⟨rfl,rfl⟩:=H
     have hnb94:=NB128_127.out
     have hnc94:=NB127_128.out
     have hnb95:=NB128_137.out
     have hnc95:=NB137_128.out
     have hnb96:=NB128_141.out
     have hnc96:=NB141_128.out
     have hnb97:=NB128_147.out
     have hnc97:=NB147_128.out
     have hnb98:=NB128_152.out
     have hnc98:=NB152_128.out
     have hcz99_0 : wc.cell? ⟨gb128,0,none⟩ = some (.int .i64 a1_0):=(blk_cell BK128.out 0).trans rfl
     have hcz99_1 : wc.cell? ⟨gb128,1,none⟩ = some (.int .i64 a1_1):=(blk_cell BK128.out 1).trans rfl
     have hcz99_2 : wc.cell? ⟨gb128,2,none⟩ = some (.int .i64 a1_2):=(blk_cell BK128.out 2).trans rfl
     have hcz99_3 : wc.cell? ⟨gb128,3,none⟩ = some (.int .i64 a1_3):=(blk_cell BK128.out 3).trans rfl
     have hcz99_4 : wc.cell? ⟨gb128,4,none⟩ = some (.int .i64 a1_4):=(blk_cell BK128.out 4).trans rfl
     have hcz99_5 : wc.cell? ⟨gb128,5,none⟩ = some (.string a1_5):=(blk_cell BK128.out 5).trans rfl
     have hcz99_6 : wc.cell? ⟨gb128,6,none⟩ = some (.string a1_6):=(blk_cell BK128.out 6).trans rfl
     have hcz99_7 : wc.cell? ⟨gb128,7,none⟩ = some (.string a1_7):=(blk_cell BK128.out 7).trans rfl
     have hcz99_8 : wc.cell? ⟨gb128,8,none⟩ = some (.slice A1_8 l1_8.length c1_8):=(blk_cell BK128.out 8).trans rfl
     have hfz99_0:=blk_frozen BK128.out 0
     have hfz99_1:=blk_frozen BK128.out 1
     have hfz99_2:=blk_frozen BK128.out 2
     have hfz99_3:=blk_frozen BK128.out 3
     have hfz99_4:=blk_frozen BK128.out 4
     have hfz99_5:=blk_frozen BK128.out 5
     have hfz99_6:=blk_frozen BK128.out 6
     have hfz99_7:=blk_frozen BK128.out 7
     have hfz99_8:=blk_frozen BK128.out 8
     go_wp2
     go_ret2
     exact ⟨eR,bH⟩
   rw [if_pos c80] at H
   have c80b0 : decide (0 < (l1_8.length : Int)) = true:=decide_eq_true c80
   have c80b1 : decide (0 < l1_8.length) = true:=decide_eq_true (by omega)
   clear c80
   replace H:=Option.bind_eq_some_iff.mp H
   obtain ⟨t155,A810,H⟩:=H
   have A81:=aq A810
   clear A810
   simp only [Option.some.injEq,Prod.mk.injEq] at H
   obtain ⟨rfl,rfl⟩:=H
   have hnb82:=NB128_127.out
   have hnc82:=NB127_128.out
   have hnb83:=NB128_137.out
   have hnc83:=NB137_128.out
   have hnb84:=NB128_141.out
   have hnc84:=NB141_128.out
   have hnb85:=NB128_147.out
   have hnc85:=NB147_128.out
   have hnb86:=NB128_152.out
   have hnc86:=NB152_128.out
   have hcz87_0 : wc.cell? ⟨gb128,0,none⟩ = some (.int .i64 a1_0):=(blk_cell BK128.out 0).trans rfl
   have hcz87_1 : wc.cell? ⟨gb128,1,none⟩ = some (.int .i64 a1_1):=(blk_cell BK128.out 1).trans rfl
   have hcz87_2 : wc.cell? ⟨gb128,2,none⟩ = some (.int .i64 a1_2):=(blk_cell BK128.out 2).trans rfl
   have hcz87_3 : wc.cell? ⟨gb128,3,none⟩ = some (.int .i64 a1_3):=(blk_cell BK128.out 3).trans rfl
   have hcz87_4 : wc.cell? ⟨gb128,4,none⟩ = some (.int .i64 a1_4):=(blk_cell BK128.out 4).trans rfl
   have hcz87_5 : wc.cell? ⟨gb128,5,none⟩ = some (.string a1_5):=(blk_cell BK128.out 5).trans rfl
   have hcz87_6 : wc.cell? ⟨gb128,6,none⟩ = some (.string a1_6):=(blk_cell BK128.out 6).trans rfl
   have hcz87_7 : wc.cell? ⟨gb128,7,none⟩ = some (.string a1_7):=(blk_cell BK128.out 7).trans rfl
   have hcz87_8 : wc.cell? ⟨gb128,8,none⟩ = some (.slice A1_8 l1_8.length c1_8):=(blk_cell BK128.out 8).trans rfl
   have hfz87_0:=blk_frozen BK128.out 0
   have hfz87_1:=blk_frozen BK128.out 1
   have hfz87_2:=blk_frozen BK128.out 2
   have hfz87_3:=blk_frozen BK128.out 3
   have hfz87_4:=blk_frozen BK128.out 4
   have hfz87_5:=blk_frozen BK128.out 5
   have hfz87_6:=blk_frozen BK128.out 6
   have hfz87_7:=blk_frozen BK128.out 7
   have hfz87_8:=blk_frozen BK128.out 8
   have hnb88:=NB137_127.out
   have hnc88:=NB127_137.out
   have hnb89:=NB137_141.out
   have hnc89:=NB141_137.out
   have hnb90:=NB137_147.out
   have hnc90:=NB147_137.out
   have hnb91:=NB137_152.out
   have hnc91:=NB152_137.out
   have hcz92_0 : wc.cell? ⟨gb137,0,none⟩ = some (.int .i64 t134):=(blk_cell BK137.out 0).trans rfl
   have hcz92_1 : wc.cell? ⟨gb137,1,none⟩ = some (.string t135):=(blk_cell BK137.out 1).trans rfl
   have hfz92_0:=blk_frozen BK137.out 0
   have hfz92_1:=blk_frozen BK137.out 1
   go_wp2_with (first|(go_at_call 52;(with_reducible refine (sr06_IsRef.calls t134 t135 t155 _ A81.out).mono ?_);rintro e w93 ⟨rfl,hb⟩;replace BK127:=KN BK127 hb;replace BK128:=KN BK128 hb;replace BK137:=KN BK137 hb;replace BK141:=KN BK141 hb;replace BK147:=KN BK147 hb;replace BK152:=KN BK152 hb;replace HB:=aq (below_step bH hb);(try clear hb);(try clear hb2);(try clear hk);(try clear hi)))
   go_ret2
   exact ⟨eR,bH⟩
 rw [if_neg c78] at H
 have c78b0 : (a1_0 == 20) = false:=beq_eq_false_iff_ne.mpr c78
 have c78b1 : (a1_0 != 20) = true:=bne_iff_ne.mpr c78
 by_cases c100 : a1_0 = 21
 rotate_left
 · rw [if_neg c100] at H
   have c100b0 : (a1_0 == 21) = false:=beq_eq_false_iff_ne.mpr c100
   have c100b1 : (a1_0 != 21) = true:=bne_iff_ne.mpr c100
   simp only [Option.some.injEq,Prod.mk.injEq] at H
   obtain ⟨rfl,rfl⟩:=H
   go_wp2
   go_ret2
   exact ⟨eR,bH⟩
 rw [if_pos c100] at H
 have c100b0 : (a1_0 == 21) = true:=beq_iff_eq.mpr c100
 have c100b1 : (a1_0 != 21) = false:=bne_eq_false_iff_eq.mpr c100
 clear c100
 by_cases c101 : t130 = true
 rotate_left
 · replace c101:=Bool.eq_false_iff.mpr c101
   subst c101
   have H1 : (some (t129,false)) = some (r1,r2):=by rw [if_neg (show ¬ (false = true) by decide)] at H;exact H
   clear H
   have H:=H1
   clear H1
   simp only [Option.some.injEq,Prod.mk.injEq] at H
   obtain ⟨rfl,rfl⟩:=H
   go_wp2
   go_ret2
   exact ⟨eR,bH⟩
 subst c101
 have H1 : (if (l1_8.length : Int) > 0 then ((sr06_IsRef.f t134 t135).bind fun t156 => (some (t129,t156))) else (some (t129,false))) = some (r1,r2):=by rw [if_pos rfl] at H;exact H
 clear H
 have H:=H1
 clear H1
 by_cases c102 : (l1_8.length : Int) > 0
 rotate_left
 · rw [if_neg c102] at H
   have c102b0 : decide (0 < (l1_8.length : Int)) = false:=decide_eq_false c102
   have c102b1 : decide (0 < l1_8.length) = false:=decide_eq_false (by omega)
   clear c102
   simp only [Option.some.injEq,Prod.mk.injEq] at H
   obtain ⟨rfl,rfl⟩:=H
   have hnb116:=NB128_127.out
   have hnc116:=NB127_128.out
   have hnb117:=NB128_137.out
   have hnc117:=NB137_128.out
   have hnb118:=NB128_141.out
   have hnc118:=NB141_128.out
   have hnb119:=NB128_147.out
   have hnc119:=NB147_128.out
   have hnb120:=NB128_152.out
   have hnc120:=NB152_128.out
   have hcz121_0 : wc.cell? ⟨gb128,0,none⟩ = some (.int .i64 a1_0):=(blk_cell BK128.out 0).trans rfl
   have hcz121_1 : wc.cell? ⟨gb128,1,none⟩ = some (.int .i64 a1_1):=(blk_cell BK128.out 1).trans rfl
   have hcz121_2 : wc.cell? ⟨gb128,2,none⟩ = some (.int .i64 a1_2):=(blk_cell BK128.out 2).trans rfl
   have hcz121_3 : wc.cell? ⟨gb128,3,none⟩ = some (.int .i64 a1_3):=(blk_cell BK128.out 3).trans rfl
   have hcz121_4 : wc.cell? ⟨gb128,4,none⟩ = some (.int .i64 a1_4):=(blk_cell BK128.out 4).trans rfl
   have hcz121_5 : wc.cell? ⟨gb128,5,none⟩ = some (.string a1_5):=(blk_cell BK128.out 5).trans rfl
   have hcz121_6 : wc.cell? ⟨gb128,6,none⟩ = some (.string a1_6):=(blk_cell BK128.out 6).trans rfl
   have hcz121_7 : wc.cell? ⟨gb128,7,none⟩ = some (.string a1_7):=(blk_cell BK128.out 7).trans rfl
   have hcz121_8 : wc.cell? ⟨gb128,8,none⟩ = some (.slice A1_8 l1_8.length c1_8):=(blk_cell BK128.out 8).trans rfl
   have hfz121_0:=blk_frozen BK128.out 0
   have hfz121_1:=blk_frozen BK128.out 1
   have hfz121_2:=blk_frozen BK128.out 2
   have hfz121_3:=blk_frozen BK128.out 3
   have hfz121_4:=blk_frozen BK128.out 4
   have hfz121_5:=blk_frozen BK128.out 5
   have hfz121_6:=blk_frozen BK128.out 6
   have hfz121_7:=blk_frozen BK128.out 7
   have hfz121_8:=blk_frozen BK128.out 8
   go_wp2
   go_ret2
   exact ⟨eR,bH⟩
 rw [if_pos c102] at H
 have c102b0 : decide (0 < (l1_8.length : Int)) = true:=decide_eq_true c102
 have c102b1 : decide (0 < l1_8.length) = true:=decide_eq_true (by omega)
 clear c102
 replace H:=Option.bind_eq_some_iff.mp H
 obtain ⟨t156,A1030,H⟩:=H
 have A103:=aq A1030
 clear A1030
 simp only [Option.some.injEq,Prod.mk.injEq] at H
 obtain ⟨rfl,rfl⟩:=H
 have hnb104:=NB128_127.out
 have hnc104:=NB127_128.out
 have hnb105:=NB128_137.out
 have hnc105:=NB137_128.out
 have hnb106:=NB128_141.out
 have hnc106:=NB141_128.out
 have hnb107:=NB128_147.out
 have hnc107:=NB147_128.out
 have hnb108:=NB128_152.out
 have hnc108:=NB152_128.out
 have hcz109_0 : wc.cell? ⟨gb128,0,none⟩ = some (.int .i64 a1_0):=(blk_cell BK128.out 0).trans rfl
 have hcz109_1 : wc.cell? ⟨gb128,1,none⟩ = some (.int .i64 a1_1):=(blk_cell BK128.out 1).trans rfl
 have hcz109_2 : wc.cell? ⟨gb128,2,none⟩ = some (.int .i64 a1_2):=(blk_cell BK128.out 2).trans rfl
 have hcz109_3 : wc.cell? ⟨gb128,3,none⟩ = some (.int .i64 a1_3):=(blk_cell BK128.out 3).trans rfl
 have hcz109_4 : wc.cell? ⟨gb128,4,none⟩ = some (.int .i64 a1_4):=(blk_cell BK128.out 4).trans rfl
 have hcz109_5 : wc.cell? ⟨gb128,5,none⟩ = some (.string a1_5):=(blk_cell BK128.out 5).trans rfl
 have hcz109_6 : wc.cell? ⟨gb128,6,none⟩ = some (.string a1_6):=(blk_cell BK128.out 6).trans rfl
 have hcz109_7 : wc.cell? ⟨gb128,7,none⟩ = some (.string a1_7):=(blk_cell BK128.out 7).trans rfl
 have hcz109_8 : wc.cell? ⟨gb128,8,none⟩ = some (.slice A1_8 l1_8.length c1_8):=(blk_cell BK128.out 8).trans rfl
 have hfz109_0:=blk_frozen BK128.out 0
 have hfz109_1:=blk_frozen BK128.out 1
 have hfz109_2:=blk_frozen BK128.out 2
 have hfz109_3:=blk_frozen BK128.out 3
 have hfz109_4:=blk_frozen BK128.out 4
 have hfz109_5:=blk_frozen BK128.out 5
 have hfz109_6:=blk_frozen BK128.out 6
 have hfz109_7:=blk_frozen BK128.out 7
 have hfz109_8:=blk_frozen BK128.out 8
 have hnb110:=NB137_127.out
 have hnc110:=NB127_137.out
 have hnb111:=NB137_141.out
 have hnc111:=NB141_137.out
 have hnb112:=NB137_147.out
 have hnc112:=NB147_137.out
 have hnb113:=NB137_152.out
 have hnc113:=NB152_137.out
 have hcz114_0 : wc.cell? ⟨gb137,0,none⟩ = some (.int .i64 t134):=(blk_cell BK137.out 0).trans rfl
 have hcz114_1 : wc.cell? ⟨gb137,1,none⟩ = some (.string t135):=(blk_cell BK137.out 1).trans rfl
 have hfz114_0:=blk_frozen BK137.out 0
 have hfz114_1:=blk_frozen BK137.out 1
 go_wp2_with (first|(go_at_call 52;(with_reducible refine (sr06_IsRef.calls t134 t135 t156 _ A103.out).mono ?_);rintro e w115 ⟨rfl,hb⟩;replace BK127:=KN BK127 hb;replace BK128:=KN BK128 hb;replace BK137:=KN BK137 hb;replace BK141:=KN BK141 hb;replace BK147:=KN BK147 hb;replace BK152:=KN BK152 hb;replace HB:=aq (below_step bH hb);(try clear hb);(try clear hb2);(try clear hk);(try clear hi)))
 go_ret2
 exact ⟨eR,bH⟩
end Go.Proofs.Ytfplcohjnlbfjaa.Q54
end

section
namespace Go.Proofs.Ytfplcohjnlbfjaa.Hand
open Go.RowKit Go.Proofs.YtfplcohjnlbfjaaW
open PrintWords PrintLast PrintMore
theorem tmod_nat (x : Int) (n : Nat) (hx : 0 ≤ x ∧ x < 256) (hn : ¬ (n : Int) = 0) : ∃ t : Nat, Int.tmod (wrap64 x) (n : Int) = (t : Int) ∧ (t : Int) < (n : Int) := by
 have e : wrap64 x = x:=by unfold wrap64;omega
 rw [e]
 have h0:=Int.tmod_nonneg (n : Int) hx.1
 have h1:=Int.tmod_lt_of_pos x (show (0 : Int) < (n : Int) by omega)
 exact ⟨(Int.tmod x (n : Int)).toNat,(Int.toNat_of_nonneg h0).symm,by rw [Int.toNat_of_nonneg h0];exact h1⟩
theorem law_method (A0 : Option Addr) (c0 : Nat) (l0 : List S33) (A1 : Option Addr) (c1 : Nat) (l1 : List ByteArray) (a2 a3 a4 : ByteArray) (px py : Int) (w : World) (hr0 : Kd.C k33 w A0 l0.length l0) (hx : 0 ≤ px ∧ px < 256) (hy : 0 ≤ py ∧ py < 256) :
  Calls Try.prog 27 #[.agg (pG A0 l0 c0 A1 l1 c1 a2 a3 a4),.int .u8 px,.int .u8 py] w fun e w' => ∃ b0 b1 b2,e = .returned (.agg #[.string b0,.string b1,.string b2]) ∧ Below w.heap.size w w':=by
 have hab:=below_alloc (below_alloc (Below.refl w.heap.size w) (Obj.cells (pG A0 l0 c0 A1 l1 c1 a2 a3 a4) 27)) (Obj.cells zR 25)
 have h0:=blk_alloc (World.alloc_heap_new w (Obj.cells (pG A0 l0 c0 A1 l1 c1 a2 a3 a4) 27)) (Obj.cells zR 25)
 have h1:=World.alloc_heap_new (w.alloc (Obj.cells (pG A0 l0 c0 A1 l1 c1 a2 a3 a4) 27)) (Obj.cells zR 25)
 rw [World.size_alloc] at h1
 have HR0:=aq (Kd.C_below hr0 hab)
 obtain ⟨W0,hW⟩ : ∃ W0,(w.alloc (Obj.cells (pG A0 l0 c0 A1 l1 c1 a2 a3 a4) 27)).alloc (Obj.cells zR 25) = W0:=⟨_,rfl⟩
 rw [hW] at hab h0 h1 HR0
 obtain ⟨n,hn⟩ : ∃ n,n = l0.length:=⟨_,rfl⟩
 have HB0:=aq hab
 have HP0:=aq h0
 have HQ0:=aq h1
 have HNN:=aq hn
 have p0 : W0.cell? ⟨w.heap.size,0,none⟩ = some (.slice A0 n c0):=by rw [hn];exact blk_cell h0 0
 have HW:=aq hW
 clear hr0 hab h0 h1 hW hn
 go_enter Try.func27,Try.ntmps27
 by_cases hnz : (n : Int) = 0
 ·
  have hq : ((n : Int) == 0) = true:=beq_iff_eq.2 hnz
  have e0 : W0.cell? ⟨w.heap.size + 1,0,none⟩ = some (.string ⟨#[]⟩):=blk_cell HQ0.out 0
  have e1 : W0.cell? ⟨w.heap.size + 1,1,none⟩ = some (.string ⟨#[]⟩):=blk_cell HQ0.out 1
  have e2 : W0.cell? ⟨w.heap.size + 1,2,none⟩ = some (.string ⟨#[]⟩):=blk_cell HQ0.out 2
  have ef:=blk_frozen HQ0.out
  clear hnz
  go_upto_region 1 with fail
  rw [HW.out]
  go_wp2_with fail
  exact bodyPost_ret (results_cell_row rfl _ _ (w.heap.size + 1) 25 #[.string ⟨#[65]⟩,.string ⟨#[109]⟩,.string ⟨#[40,41,86]⟩] (0,0) _ rfl (set3_own HQ0.out _ _ _) Try.underlying25 rfl (by kernel_rfl)) rfl ⟨_,_,_,rfl,set3_belowA HB0.out (Nat.le_succ _) _ _ _⟩
 ·
  have hq : ((n : Int) == 0) = false:=beq_eq_false_iff_ne.2 hnz
  obtain ⟨t,ht,htn⟩:=tmod_nat px n hx hnz
  have hn0 : ¬ n = 0:=by omega
  obtain ⟨ad,B4,d4,B5,d5,B6,d6,hA,h0,h1,h2,h3,h4,h5,h6,_,_,_,_,hl6,hC6⟩:=at_T33 HR0.out (t : Int) (by omega) (by rw [← HNN.out];exact htn)
  obtain ⟨c,hc⟩ : ∃ c,rd_T33 l0 (t : Int) = c:=⟨_,rfl⟩
  rw [hc,Int.toNat_natCast] at h0 h1 h2 h3 h4 h5 h6
  rw [hc] at hl6 hC6
  subst hA
  have HC6:=aq hC6
  have HL6:=aq hl6
  have HBX : Aside0 (Below w.heap.size w W0.drew):=⟨below_drew1 HB0.out⟩
  have HDX : Aside0 (Below W0.heap.size W0 W0.drew):=⟨below_drew1 (Below.refl _ _)⟩
  have HQX : Aside0 (W0.drew.heap[w.heap.size + 1]? = some (Obj.cells zR 25 (0,0))):=⟨HQ0.out⟩
  have z0 : W0.drew.cell? ⟨w.heap.size,0,none⟩ = some (.slice (some ad) n c0):=p0
  have z1 : W0.drew.cell? (ad.add (t * 7)) = some (.string c.f0):=h0
  have z2 : W0.drew.cell? ⟨(ad.add (t * 7)).block,(ad.add (t * 7)).off + 1,none⟩ = some (.string c.f1):=h1
  have z3 : W0.drew.cell? ⟨(ad.add (t * 7)).block,(ad.add (t * 7)).off + 2,none⟩ = some (.bool c.f2):=h2
  have z4 : W0.drew.cell? ⟨(ad.add (t * 7)).block,(ad.add (t * 7)).off + 3,none⟩ = some (.bool c.f3):=h3
  have z5 : W0.drew.cell? ⟨(ad.add (t * 7)).block,(ad.add (t * 7)).off + 4,none⟩ = some (.slice B4 c.f4.length d4):=h4
  have z6 : W0.drew.cell? ⟨(ad.add (t * 7)).block,(ad.add (t * 7)).off + 5,none⟩ = some (.slice B5 c.f5.length d5):=h5
  have z7 : W0.drew.cell? ⟨(ad.add (t * 7)).block,(ad.add (t * 7)).off + 6,none⟩ = some (.slice B6 c.f6.length d6):=h6
  have hi0 : (0 : Int) ≤ (t : Int):=by omega
  clear hc hl6 hC6 h0 h1 h2 h3 h4 h5 h6 hnz
  go_upto_region 1 with fail
  rw [HW.out]
  go_wp2_with fail
  refine start_ (n:=12) (S:=fun w' => w'.cell? ⟨w.heap.size,0,none⟩ = some (.slice (some ad) n c0) ∧ w'.cell? (ad.add (t * 7)) = some (.string c.f0) ∧ w'.cell? ⟨(ad.add (t * 7)).block,(ad.add (t * 7)).off + 1,none⟩ = some (.string c.f1) ∧ w'.cell? ⟨(ad.add (t * 7)).block,(ad.add (t * 7)).off + 2,none⟩ = some (.bool c.f2) ∧ w'.cell? ⟨(ad.add (t * 7)).block,(ad.add (t * 7)).off + 3,none⟩ = some (.bool c.f3) ∧ w'.cell? ⟨(ad.add (t * 7)).block,(ad.add (t * 7)).off + 4,none⟩ = some (.slice B4 c.f4.length d4) ∧ w'.cell? ⟨(ad.add (t * 7)).block,(ad.add (t * 7)).off + 5,none⟩ = some (.slice B5 c.f5.length d5) ∧ w'.cell? ⟨(ad.add (t * 7)).block,(ad.add (t * 7)).off + 6,none⟩ = some (.slice B6 c.f6.length d6)) (ds:=[11]) (Array.replicate 12 false) (by kernel_rfl) rfl rfl ⟨z0,z1,z2,z3,z4,z5,z6,z7⟩ (fun hHeld => ?_)
  generalize W0.drew = X at HBX HDX HQX z0 z1 z2 z3 z4 z5 z6 z7 hHeld ⊢
  refine sP (i:=0) (N:=some 14) ?_
  refine sP (i:=2) (N:=some 16) ?_
  refine sP (i:=3) (N:=some 17) ?_
  refine sP (i:=4) (N:=some 18) ?_
  refine sT (i:=1) (N:=some 15) hHeld ?_
  refine sT (i:=5) (N:=some 19) hHeld ?_
  refine sP (i:=6) (N:=some 20) ?_
  refine sP (i:=7) (N:=some 21) ?_
  refine sP (i:=8) (N:=some 22) ?_
  refine sT (i:=9) (N:=some 23) hHeld ?_
  refine sO (i:=10) (N:=some 7) fun K hK => ?_
  refine value_ (w1:=?_) (v:=?_) (by rfl) rfl ?_ ?_
  rotate_left 2
  ·
   go_simp
   constructor
   ·
    rfl
   ·
    rfl
  have HF7:=aq (World.alloc_heap_new X (Obj.cells #[.string ⟨#[]⟩,.string ⟨#[]⟩,.bool false,.bool false,.slice none 0 0,.slice none 0 0,.slice none 0 0] 33))
  have HD7:=aq (below_alloc (Below.refl X.heap.size X) (Obj.cells #[.string ⟨#[]⟩,.string ⟨#[]⟩,.bool false,.bool false,.slice none 0 0,.slice none 0 0,.slice none 0 0] 33))
  refine hK.out _ _ ⟨(((below_alloc (Below.refl X.heap.size X) (Obj.cells #[.string ⟨#[]⟩,.string ⟨#[]⟩,.bool false,.bool false,.slice none 0 0,.slice none 0 0,.slice none 0 0] 33)).cell (World.block_lt_of_cell? _ _ z0)).trans z0),(((below_alloc (Below.refl X.heap.size X) (Obj.cells #[.string ⟨#[]⟩,.string ⟨#[]⟩,.bool false,.bool false,.slice none 0 0,.slice none 0 0,.slice none 0 0] 33)).cell (World.block_lt_of_cell? _ _ z1)).trans z1),(((below_alloc (Below.refl X.heap.size X) (Obj.cells #[.string ⟨#[]⟩,.string ⟨#[]⟩,.bool false,.bool false,.slice none 0 0,.slice none 0 0,.slice none 0 0] 33)).cell (World.block_lt_of_cell? _ _ z2)).trans z2),(((below_alloc (Below.refl X.heap.size X) (Obj.cells #[.string ⟨#[]⟩,.string ⟨#[]⟩,.bool false,.bool false,.slice none 0 0,.slice none 0 0,.slice none 0 0] 33)).cell (World.block_lt_of_cell? _ _ z3)).trans z3),(((below_alloc (Below.refl X.heap.size X) (Obj.cells #[.string ⟨#[]⟩,.string ⟨#[]⟩,.bool false,.bool false,.slice none 0 0,.slice none 0 0,.slice none 0 0] 33)).cell (World.block_lt_of_cell? _ _ z4)).trans z4),(((below_alloc (Below.refl X.heap.size X) (Obj.cells #[.string ⟨#[]⟩,.string ⟨#[]⟩,.bool false,.bool false,.slice none 0 0,.slice none 0 0,.slice none 0 0] 33)).cell (World.block_lt_of_cell? _ _ z5)).trans z5),(((below_alloc (Below.refl X.heap.size X) (Obj.cells #[.string ⟨#[]⟩,.string ⟨#[]⟩,.bool false,.bool false,.slice none 0 0,.slice none 0 0,.slice none 0 0] 33)).cell (World.block_lt_of_cell? _ _ z6)).trans z6),(((below_alloc (Below.refl X.heap.size X) (Obj.cells #[.string ⟨#[]⟩,.string ⟨#[]⟩,.bool false,.bool false,.slice none 0 0,.slice none 0 0,.slice none 0 0] 33)).cell (World.block_lt_of_cell? _ _ z7)).trans z7)⟩ (fun hHeld => ?_)
  clear hK K
  refine sN ?_
  refine sX (i:=11) (N:=none) fun K hK => ?_
  refine step_store_blk HF7.out 33 _ _ 0 7 ([.string c.f0,.string c.f1,.bool c.f2,.bool c.f3,.slice B4 c.f4.length d4,.slice B5 c.f5.length d5,.slice B6 c.f6.length d6]) (by rfl) rfl rfl rfl rfl rfl (show 7 ≤ 7 from Nat.le_refl _) (by kernel_rfl) rfl (cs':=(zC c B4 d4 B5 d5 B6 d6)) (by kernel_rfl) ?_
  intro W7 hq hB hF hsz
  have HZ7:=aq hq
  have HB7:=aq (hB _ _ (Nat.le_refl _) HD7.out)
  clear hq hB hF hsz
  refine hK.out _ _ ?_
  clear hK K
  refine done_ (by kernel_rfl) ?_
  clear z0 z1 z2 z3 z4 z5 z6 z7 hHeld p0 ht htn hq hn0 hi0
  obtain ⟨q,hq⟩ : ∃ q,q = X.heap.size:=⟨_,rfl⟩
  have HBW : Aside0 (Below w.heap.size w W7):=⟨below_step HBX.out HB7.out⟩
  have HBQ : Aside0 (Below W0.heap.size W0 W7):=⟨below_step HDX.out HB7.out⟩
  have HQ7 : Aside0 (W7.heap[w.heap.size + 1]? = some (Obj.cells zR 25 (0,0))):=⟨blk_below HQX.out HB7.out⟩
  have HZQ : Aside0 (W7.heap[q]? = some (Obj.cells (zC c B4 d4 B5 d5 B6 d6) 33 (0,0))):=⟨by rw [hq];exact HZ7.out⟩
  rw [← hq]
  obtain ⟨n6,hn6⟩ : ∃ n6,n6 = c.f6.length:=⟨_,rfl⟩
  have HN6:=aq hn6
  have g6 : W7.cell? ⟨q,6,none⟩ = some (.slice B6 n6 d6):=by rw [hn6];exact blk_cell HZQ.out 6
  have g0 : W7.cell? ⟨q,0,none⟩ = some (.string c.f0):=blk_cell HZQ.out 0
  clear hq hn6 HZ7 HBX HDX HQX HB7 HF7 HD7 HP0 HW HQ0 HB0
  by_cases hnz : (n6 : Int) = 0
  ·
   have hq : ((n6 : Int) == 0) = true:=beq_iff_eq.2 hnz
   have e0 : W7.cell? ⟨w.heap.size + 1,0,none⟩ = some (.string ⟨#[]⟩):=blk_cell HQ7.out 0
   have e1 : W7.cell? ⟨w.heap.size + 1,1,none⟩ = some (.string ⟨#[]⟩):=blk_cell HQ7.out 1
   have e2 : W7.cell? ⟨w.heap.size + 1,2,none⟩ = some (.string ⟨#[]⟩):=blk_cell HQ7.out 2
   have ef:=blk_frozen HQ7.out
   clear hnz
   go_wp2_with fail
   exact bodyPost_ret (results_cell_row rfl _ _ (w.heap.size + 1) 25 #[.string c.f0,.string ⟨#[109]⟩,.string ⟨#[40,41,86]⟩] (0,0) _ rfl (set3_own HQ7.out _ _ _) Try.underlying25 rfl (by kernel_rfl)) rfl ⟨_,_,_,rfl,set3_belowA HBW.out (Nat.le_succ _) _ _ _⟩
  ·
   have hq : ((n6 : Int) == 0) = false:=beq_eq_false_iff_ne.2 hnz
   obtain ⟨t6,ht,htn⟩:=tmod_nat py n6 hy hnz
   have hn0 : ¬ n6 = 0:=by omega
   obtain ⟨bd,D5,e5,hA,h0,h1,h2,h3,h4,h5,_,_⟩:=at_T37 HC6.out (t6 : Int) (by omega) (by rw [← HN6.out];exact htn)
   obtain ⟨m,hmm⟩ : ∃ m,rd_T37 c.f6 (t6 : Int) = m:=⟨_,rfl⟩
   rw [hmm,Int.toNat_natCast] at h0 h1 h2 h3 h4 h5
   subst hA
   have HBX : Aside0 (Below w.heap.size w W7.drew):=⟨below_drew1 HBW.out⟩
   have HBQ6 : Aside0 (Below W0.heap.size W0 W7.drew):=⟨below_drew1 HBQ.out⟩
   have HQX : Aside0 (W7.drew.heap[w.heap.size + 1]? = some (Obj.cells zR 25 (0,0))):=⟨HQ7.out⟩
   have HDX : Aside0 (W7.drew.heap[q]? = some (Obj.cells #[.string c.f0,.string c.f1,.bool c.f2,.bool c.f3,.slice B4 c.f4.length d4,.slice B5 c.f5.length d5,.slice (some bd) c.f6.length d6] 33 (0,0))):=⟨HZQ.out⟩
   have z0 : W7.drew.cell? ⟨q,6,none⟩ = some (.slice (some bd) n6 d6):=g6
   have z1 : W7.drew.cell? (bd.add (t6 * 6)) = some (.string m.f0):=sC HBQ6.out h0
   have z2 : W7.drew.cell? ⟨(bd.add (t6 * 6)).block,(bd.add (t6 * 6)).off + 1,none⟩ = some (.string m.f1):=sC HBQ6.out h1
   have z3 : W7.drew.cell? ⟨(bd.add (t6 * 6)).block,(bd.add (t6 * 6)).off + 2,none⟩ = some (.bool m.f2):=sC HBQ6.out h2
   have z4 : W7.drew.cell? ⟨(bd.add (t6 * 6)).block,(bd.add (t6 * 6)).off + 3,none⟩ = some (.bool m.f3):=sC HBQ6.out h3
   have z5 : W7.drew.cell? ⟨(bd.add (t6 * 6)).block,(bd.add (t6 * 6)).off + 4,none⟩ = some (.int .i64 m.f4):=sC HBQ6.out h4
   have z6 : W7.drew.cell? ⟨(bd.add (t6 * 6)).block,(bd.add (t6 * 6)).off + 5,none⟩ = some (.slice D5 m.f5.length e5):=sC HBQ6.out h5
   have hi0 : (0 : Int) ≤ (t6 : Int):=by omega
   clear hmm h0 h1 h2 h3 h4 h5 hnz
   go_wp2_with fail
   refine start_ (n:=12) (S:=fun w' => w'.cell? ⟨q,6,none⟩ = some (.slice (some bd) n6 d6) ∧ w'.cell? (bd.add (t6 * 6)) = some (.string m.f0) ∧ w'.cell? ⟨(bd.add (t6 * 6)).block,(bd.add (t6 * 6)).off + 1,none⟩ = some (.string m.f1) ∧ w'.cell? ⟨(bd.add (t6 * 6)).block,(bd.add (t6 * 6)).off + 2,none⟩ = some (.bool m.f2) ∧ w'.cell? ⟨(bd.add (t6 * 6)).block,(bd.add (t6 * 6)).off + 3,none⟩ = some (.bool m.f3) ∧ w'.cell? ⟨(bd.add (t6 * 6)).block,(bd.add (t6 * 6)).off + 4,none⟩ = some (.int .i64 m.f4) ∧ w'.cell? ⟨(bd.add (t6 * 6)).block,(bd.add (t6 * 6)).off + 5,none⟩ = some (.slice D5 m.f5.length e5)) (ds:=[11]) (Array.replicate 12 false) (by kernel_rfl) rfl rfl ⟨z0,z1,z2,z3,z4,z5,z6⟩ (fun hHeld => ?_)
   generalize W7.drew = X at HBX HQX HDX HBQ6 z0 z1 z2 z3 z4 z5 z6 hHeld ⊢
   refine sP (i:=0) (N:=some 31) ?_
   refine sP (i:=2) (N:=some 33) ?_
   refine sP (i:=3) (N:=some 34) ?_
   refine sP (i:=4) (N:=some 35) ?_
   refine sT (i:=1) (N:=some 32) hHeld ?_
   refine sT (i:=5) (N:=some 36) hHeld ?_
   refine sP (i:=6) (N:=some 37) ?_
   refine sP (i:=7) (N:=some 38) ?_
   refine sP (i:=8) (N:=some 39) ?_
   refine sT (i:=9) (N:=some 40) hHeld ?_
   refine sO (i:=10) (N:=some 8) fun K hK => ?_
   refine value_ (w1:=?_) (v:=?_) (by rfl) rfl ?_ ?_
   rotate_left 2
   ·
    go_simp
    constructor
    ·
     rfl
    ·
     rfl
   have HF8:=aq (World.alloc_heap_new X (Obj.cells zM 37))
   have HD8:=aq (below_alloc (Below.refl X.heap.size X) (Obj.cells zM 37))
   refine hK.out _ _ ⟨(((below_alloc (Below.refl X.heap.size X) (Obj.cells zM 37)).cell (World.block_lt_of_cell? _ _ z0)).trans z0),(((below_alloc (Below.refl X.heap.size X) (Obj.cells zM 37)).cell (World.block_lt_of_cell? _ _ z1)).trans z1),(((below_alloc (Below.refl X.heap.size X) (Obj.cells zM 37)).cell (World.block_lt_of_cell? _ _ z2)).trans z2),(((below_alloc (Below.refl X.heap.size X) (Obj.cells zM 37)).cell (World.block_lt_of_cell? _ _ z3)).trans z3),(((below_alloc (Below.refl X.heap.size X) (Obj.cells zM 37)).cell (World.block_lt_of_cell? _ _ z4)).trans z4),(((below_alloc (Below.refl X.heap.size X) (Obj.cells zM 37)).cell (World.block_lt_of_cell? _ _ z5)).trans z5),(((below_alloc (Below.refl X.heap.size X) (Obj.cells zM 37)).cell (World.block_lt_of_cell? _ _ z6)).trans z6)⟩ (fun hHeld => ?_)
   clear hK K
   refine sN ?_
   refine sX (i:=11) (N:=none) fun K hK => ?_
   refine step_store_blk HF8.out 37 _ _ 0 6 ([.string m.f0,.string m.f1,.bool m.f2,.bool m.f3,.int .i64 m.f4,.slice D5 m.f5.length e5]) (by rfl) rfl rfl rfl rfl rfl (show 6 ≤ 6 from Nat.le_refl _) (by kernel_rfl) rfl (cs':=(zH m D5 e5)) (by kernel_rfl) ?_
   intro W8 hq hB hF hsz
   have HZ8:=aq hq
   have HB8:=aq (hB _ _ (Nat.le_refl _) HD8.out)
   clear hq hB hF hsz
   refine hK.out _ _ ?_
   clear hK K
   refine done_ (by kernel_rfl) ?_
   clear z0 z1 z2 z3 z4 z5 z6 hHeld
   have HBV : Aside0 (Below w.heap.size w W8):=⟨below_step HBX.out HB8.out⟩
   have HQ8 : Aside0 (W8.heap[w.heap.size + 1]? = some (Obj.cells zR 25 (0,0))):=⟨blk_below HQX.out HB8.out⟩
   have g0 : W8.cell? ⟨q,0,none⟩ = some (.string c.f0):=blk_cell (blk_below HDX.out HB8.out) 0
   have m0 : W8.cell? ⟨X.heap.size,0,none⟩ = some (.string m.f0):=blk_cell HZ8.out 0
   have m1 : W8.cell? ⟨X.heap.size,1,none⟩ = some (.string m.f1):=blk_cell HZ8.out 1
   have e0 : W8.cell? ⟨w.heap.size + 1,0,none⟩ = some (.string ⟨#[]⟩):=blk_cell HQ8.out 0
   have e1 : W8.cell? ⟨w.heap.size + 1,1,none⟩ = some (.string ⟨#[]⟩):=blk_cell HQ8.out 1
   have e2 : W8.cell? ⟨w.heap.size + 1,2,none⟩ = some (.string ⟨#[]⟩):=blk_cell HQ8.out 2
   have ef:=blk_frozen HQ8.out
   go_wp2_with fail
   exact bodyPost_ret (results_cell_row rfl _ _ (w.heap.size + 1) 25 #[.string c.f0,.string m.f0,.string m.f1] (0,0) _ rfl (set3_own HQ8.out _ _ _) Try.underlying25 rfl (by kernel_rfl)) rfl ⟨_,_,_,rfl,set3_belowA HBV.out (Nat.le_succ _) _ _ _⟩
def okI (x : S74) : Prop := x.f8.length ≤ 60 ∧ x.f5.size ≤ 300 ∧ x.f6.size ≤ 300 ∧ x.f7.size ≤ 300
def okM (m : S37) : Prop := m.f5.length ≤ 300 ∧ ∀ x ∈ m.f5, okI x
def okC (c : S33) : Prop := c.f6.length ≤ 40 ∧ c.f0.size ≤ 300 ∧ ∀ m ∈ c.f6, okM m
theorem wrap_next (i n : Nat) (h : i < n) (hn : n ≤ 1000) : wrap64 ((i : Int) + 1) = ((i + 1 : Nat) : Int) := by
 unfold wrap64
 omega
theorem ok_next {α : Type} {p : α → Prop} {xs : List α} {i : Nat} {x : α} (h : ∀ y ∈ xs.take i, p y) (hi : i < xs.length) (e : xs[i] = x) (hp : p x) : ∀ y ∈ xs.take (i + 1), p y := by
 intro y hy
 rw [List.take_succ_eq_append_getElem hi] at hy
 rcases List.mem_append.1 hy with hy|hy
 ·
  exact h y hy
 ·
  obtain rfl:=List.mem_singleton.1 hy
  rw [e]
  exact hp
theorem ok_end {α : Type} {p : α → Prop} {xs : List α} {i : Nat} (h : ∀ y ∈ xs.take i, p y) (hi : i = xs.length) : ∀ y ∈ xs, p y := by
 rw [hi,List.take_length] at h
 exact h
theorem law_great (A0 : Option Addr) (c0 : Nat) (l0 : List S33) (A1 : Option Addr) (c1 : Nat) (l1 : List ByteArray) (a2 a3 a4 : ByteArray) (w : World) (hr0 : Kd.C k33 w A0 l0.length l0) :
  Calls Try.prog 9 #[.agg (pG A0 l0 c0 A1 l1 c1 a2 a3 a4)] w fun e w' => ∃ gr,e = .returned (.bool gr) ∧ (gr = false → l0.length ≤ 70 ∧ ∀ c ∈ l0,okC c) ∧ Below w.heap.size w w':=by
 have HB1:=aq (below_alloc (Below.refl w.heap.size w) (Obj.cells (pG A0 l0 c0 A1 l1 c1 a2 a3 a4) 27))
 have HR1:=aq (Kd.C_below hr0 HB1.out)
 have HP1:=aq (World.alloc_heap_new w (Obj.cells (pG A0 l0 c0 A1 l1 c1 a2 a3 a4) 27))
 obtain ⟨n,hn⟩ : ∃ n,n = l0.length:=⟨_,rfl⟩
 have HNN:=aq hn
 have p0 : (w.alloc (Obj.cells (pG A0 l0 c0 A1 l1 c1 a2 a3 a4) 27)).cell? ⟨w.heap.size,0,none⟩ = some (.slice A0 n c0):=by rw [hn];exact blk_cell HP1.out 0
 have p1 : (w.alloc (Obj.cells (pG A0 l0 c0 A1 l1 c1 a2 a3 a4) 27)).cell? ⟨w.heap.size,1,none⟩ = some (.slice A1 l1.length c1):=blk_cell HP1.out 1
 clear hr0 hn
 go_enter Try.func9,Try.ntmps9
 by_cases ga : 70 < n
 ·
  have ha : decide ((n : Int) > 70) = true:=decide_eq_true (by omega)
  clear ga
  go_wp2_with fail
  exact bodyPost_ret (results_tmp rfl _ _ _) rfl ⟨true,rfl,fun h => absurd h.symm Bool.false_ne_true,HB1.out⟩
 have ha : decide ((n : Int) > 70) = false:=decide_eq_false (by omega)
 by_cases gb : 70 < l1.length
 ·
  have hb : decide ((l1.length : Int) > 70) = true:=decide_eq_true (by omega)
  clear gb
  go_wp2_with fail
  exact bodyPost_ret (results_tmp rfl _ _ _) rfl ⟨true,rfl,fun h => absurd h.symm Bool.false_ne_true,HB1.out⟩
 have hb : decide ((l1.length : Int) > 70) = false:=decide_eq_false (by omega)
 go_upto_block 0 with fail
 generalize w.alloc (Obj.cells (pG A0 l0 c0 A1 l1 c1 a2 a3 a4) 27) = W1 at HB1 HR1 HP1 p0 p1 ⊢
 generalize (Value.agg (pG A0 l0 c0 A1 l1 c1 a2 a3 a4)) = cv
 have HN70 : Aside0 (n ≤ 70):=⟨by omega⟩
 clear p0 p1 ga gb ha hb
 go_wp2_with fail
 go_loopg [3] n (fun kq v3 wr => ∃ (i : Nat),v3 = .int .i64 (i : Int) ∧ i + kq = n ∧ Aside0 (∀ y ∈ l0.take i,okC y) ∧ Aside0 (Below W1.heap.size W1 wr))
 case atStart => exact ⟨0,rfl,by omega,⟨fun y h => by cases h⟩,⟨Below.refl _ _⟩⟩
 case round =>
  obtain ⟨i,rfl,hi,HO,HBL⟩:=hrel
  have p0 : wr.cell? ⟨w.heap.size,0,none⟩ = some (.slice A0 n c0):=by rw [HNN.out];exact blk_cell (blk_below HP1.out HBL.out) 0
  by_cases hlt : i < n
  ·
   have hltX : i < l0.length:=by rw [← HNN.out];exact hlt
   obtain ⟨ad,B4,d4,B5,d5,B6,d6,hA,h0,h1,h2,h3,h4,h5,h6,_,_,_,_,hl6,hC6⟩:=at_T33 (Kd.C_below HR1.out HBL.out) (i : Int) (by omega) (Int.ofNat_lt.2 hltX)
   obtain ⟨c,hc⟩ : ∃ c,l0[i] = c:=⟨_,rfl⟩
   have hrd : rd_T33 l0 (i : Int) = c:=by
    rw [← hc]
    unfold rd_T33
    rw [Int.toNat_natCast,List.getD_eq_getElem?_getD,List.getElem?_eq_getElem hltX]
    rfl
   rw [hrd,Int.toNat_natCast] at h0 h1 h2 h3 h4 h5 h6
   rw [hrd] at hl6 hC6
   subst hA
   have HNX:=aq (fun hp => ok_next (p:=okC) HO.out hltX hc hp)
   have hd : decide ((i : Int) < (n : Int)) = true:=decide_eq_true (by omega)
   have hi0 : (0 : Int) ≤ (i : Int):=by omega
   have hi1 : (i : Int) < (n : Int):=by omega
   have HLT:=aq hlt
   have HZ2:=aq (World.alloc_heap_new wr (Obj.cells (zC c B4 d4 B5 d5 B6 d6) 33))
   have HB2 : Aside0 (Below W1.heap.size W1 (wr.alloc (Obj.cells (zC c B4 d4 B5 d5 B6 d6) 33))):=⟨below_alloc HBL.out _⟩
   have HC6:=aq (Kd.C_below hC6 (below_alloc (Below.refl wr.heap.size wr) (Obj.cells (zC c B4 d4 B5 d5 B6 d6) 33)))
   have HBF : Aside0 (Below w.heap.size w (wr.alloc (Obj.cells (zC c B4 d4 B5 d5 B6 d6) 33))):=⟨below_step HB1.out HB2.out⟩
   have k0 : (wr.alloc (Obj.cells (zC c B4 d4 B5 d5 B6 d6) 33)).cell? ⟨wr.heap.size,0,none⟩ = some (.string c.f0):=blk_cell HZ2.out 0
   have k1 : (wr.alloc (Obj.cells (zC c B4 d4 B5 d5 B6 d6) 33)).cell? ⟨wr.heap.size,1,none⟩ = some (.string c.f1):=blk_cell HZ2.out 1
   have k4 : (wr.alloc (Obj.cells (zC c B4 d4 B5 d5 B6 d6) 33)).cell? ⟨wr.heap.size,4,none⟩ = some (.slice B4 c.f4.length d4):=blk_cell HZ2.out 4
   have k5 : (wr.alloc (Obj.cells (zC c B4 d4 B5 d5 B6 d6) 33)).cell? ⟨wr.heap.size,5,none⟩ = some (.slice B5 c.f5.length d5):=blk_cell HZ2.out 5
   have k6 : (wr.alloc (Obj.cells (zC c B4 d4 B5 d5 B6 d6) 33)).cell? ⟨wr.heap.size,6,none⟩ = some (.slice B6 c.f6.length d6):=blk_cell HZ2.out 6
   obtain ⟨K1,hK1⟩ : ∃ K1,i + 1 + K1 = n ∧ K1 < gk:=⟨gk - 1,by omega⟩
   have HGO:=aq hK1
   clear hc hrd hl6 hC6 hltX hK1 hi hlt
   by_cases gc4 : 40 < c.f4.length
   ·
    have hc4 : decide ((c.f4.length : Int) > 40) = true:=decide_eq_true (by omega)
    clear gc4
    go_wp2_with fail
    exact bodyPost_ret (results_tmp rfl _ _ _) rfl ⟨true,rfl,fun h => absurd h.symm Bool.false_ne_true,HBF.out⟩
   have hc4 : decide ((c.f4.length : Int) > 40) = false:=decide_eq_false (by omega)
   by_cases gc5 : 40 < c.f5.length
   ·
    have hc5 : decide ((c.f5.length : Int) > 40) = true:=decide_eq_true (by omega)
    clear gc5
    go_wp2_with fail
    exact bodyPost_ret (results_tmp rfl _ _ _) rfl ⟨true,rfl,fun h => absurd h.symm Bool.false_ne_true,HBF.out⟩
   have hc5 : decide ((c.f5.length : Int) > 40) = false:=decide_eq_false (by omega)
   by_cases gc6 : 40 < c.f6.length
   ·
    have hc6 : decide ((c.f6.length : Int) > 40) = true:=decide_eq_true (by omega)
    clear gc6
    go_wp2_with fail
    exact bodyPost_ret (results_tmp rfl _ _ _) rfl ⟨true,rfl,fun h => absurd h.symm Bool.false_ne_true,HBF.out⟩
   have hc6 : decide ((c.f6.length : Int) > 40) = false:=decide_eq_false (by omega)
   by_cases gc0 : 300 < c.f0.size
   ·
    have hc0 : decide ((c.f0.size : Int) > 300) = true:=decide_eq_true (by omega)
    clear gc0
    go_wp2_with fail
    exact bodyPost_ret (results_tmp rfl _ _ _) rfl ⟨true,rfl,fun h => absurd h.symm Bool.false_ne_true,HBF.out⟩
   have hc0 : decide ((c.f0.size : Int) > 300) = false:=decide_eq_false (by omega)
   by_cases gc1 : 300 < c.f1.size
   ·
    have hc1 : decide ((c.f1.size : Int) > 300) = true:=decide_eq_true (by omega)
    clear gc1
    go_wp2_with fail
    exact bodyPost_ret (results_tmp rfl _ _ _) rfl ⟨true,rfl,fun h => absurd h.symm Bool.false_ne_true,HBF.out⟩
   have hc1 : decide ((c.f1.size : Int) > 300) = false:=decide_eq_false (by omega)
   go_upto_block 2 with fail
   have HM6 : Aside0 (c.f6.length ≤ 40 ∧ c.f0.size ≤ 300):=⟨by omega,by omega⟩
   generalize wr.alloc (Obj.cells (zC c B4 d4 B5 d5 B6 d6) 33) = W2 at HZ2 HB2 HC6 HBF k0 k1 k4 k5 k6 ⊢
   obtain ⟨q,hq⟩ : ∃ q,q = wr.heap.size:=⟨_,rfl⟩
   rw [← hq] at HZ2 ⊢
   clear gc4 gc5 gc6 gc0 gc1 hc4 hc5 hc6 hc0 hc1 k0 k1 k4 k5 k6 h0 h1 h2 h3 h4 h5 h6 p0 hd hi0 hi1 hq
   obtain ⟨n2,hn2⟩ : ∃ n2,n2 = c.f6.length:=⟨_,rfl⟩
   have HN2:=aq hn2
   clear hn2
   go_wp2_with fail
   go_loopg [5] n2 (fun kq v5 wi => ∃ (j : Nat),v5 = .int .i64 (j : Int) ∧ j + kq = n2 ∧ Aside0 (∀ y ∈ c.f6.take j,okM y) ∧ Aside0 (Below W2.heap.size W2 wi))
   case atStart => exact ⟨0,rfl,by omega,⟨fun y h => by cases h⟩,⟨Below.refl _ _⟩⟩
   case round =>
    obtain ⟨j,rfl,hj,HOM,HBM⟩:=hrel
    have q6 : wr.cell? ⟨q,6,none⟩ = some (.slice B6 n2 d6):=by rw [HN2.out];exact blk_cell (blk_below HZ2.out HBM.out) 6
    by_cases hlj : j < n2
    ·
     have hljX : j < c.f6.length:=by rw [← HN2.out];exact hlj
     obtain ⟨bd,D5,e5,hA,h0,h1,h2,h3,h4,h5,hl5,hC5⟩:=at_T37 (Kd.C_below HC6.out HBM.out) (j : Int) (by omega) (Int.ofNat_lt.2 hljX)
     obtain ⟨m,hm⟩ : ∃ m,c.f6[j] = m:=⟨_,rfl⟩
     have hrd : rd_T37 c.f6 (j : Int) = m:=by
      rw [← hm]
      unfold rd_T37
      rw [Int.toNat_natCast,List.getD_eq_getElem?_getD,List.getElem?_eq_getElem hljX]
      rfl
     rw [hrd,Int.toNat_natCast] at h0 h1 h2 h3 h4 h5
     rw [hrd] at hl5 hC5
     subst hA
     have HNM:=aq (fun hp => ok_next (p:=okM) HOM.out hljX hm hp)
     have hdj : decide ((j : Int) < (n2 : Int)) = true:=decide_eq_true (by omega)
     have hj0 : (0 : Int) ≤ (j : Int):=by omega
     have hj1 : (j : Int) < (n2 : Int):=by omega
     have HLJ:=aq hlj
     have HZ3:=aq (World.alloc_heap_new wr (Obj.cells (zH m D5 e5) 37))
     have HB3 : Aside0 (Below W2.heap.size W2 (wr.alloc (Obj.cells (zH m D5 e5) 37))):=⟨below_alloc HBM.out _⟩
     have HC5:=aq (Kd.C_below hC5 (below_alloc (Below.refl wr.heap.size wr) (Obj.cells (zH m D5 e5) 37)))
     have HBG : Aside0 (Below w.heap.size w (wr.alloc (Obj.cells (zH m D5 e5) 37))):=⟨below_step HBF.out HB3.out⟩
     have k0 : (wr.alloc (Obj.cells (zH m D5 e5) 37)).cell? ⟨wr.heap.size,0,none⟩ = some (.string m.f0):=blk_cell HZ3.out 0
     have k1 : (wr.alloc (Obj.cells (zH m D5 e5) 37)).cell? ⟨wr.heap.size,1,none⟩ = some (.string m.f1):=blk_cell HZ3.out 1
     have k5 : (wr.alloc (Obj.cells (zH m D5 e5) 37)).cell? ⟨wr.heap.size,5,none⟩ = some (.slice D5 m.f5.length e5):=blk_cell HZ3.out 5
     obtain ⟨K2,hK2⟩ : ∃ K2,j + 1 + K2 = n2 ∧ K2 < gk:=⟨gk - 1,by omega⟩
     have HGJ:=aq hK2
     clear hm hrd hl5 hC5 hljX hK2 hj hlj
     by_cases gm5 : 300 < m.f5.length
     ·
      have hm5 : decide ((m.f5.length : Int) > 300) = true:=decide_eq_true (by omega)
      clear gm5
      go_wp2_with fail
      exact bodyPost_ret (results_tmp rfl _ _ _) rfl ⟨true,rfl,fun h => absurd h.symm Bool.false_ne_true,HBG.out⟩
     have hm5 : decide ((m.f5.length : Int) > 300) = false:=decide_eq_false (by omega)
     by_cases gm0 : 300 < m.f0.size
     ·
      have hm0 : decide ((m.f0.size : Int) > 300) = true:=decide_eq_true (by omega)
      clear gm0
      go_wp2_with fail
      exact bodyPost_ret (results_tmp rfl _ _ _) rfl ⟨true,rfl,fun h => absurd h.symm Bool.false_ne_true,HBG.out⟩
     have hm0 : decide ((m.f0.size : Int) > 300) = false:=decide_eq_false (by omega)
     by_cases gm1 : 300 < m.f1.size
     ·
      have hm1 : decide ((m.f1.size : Int) > 300) = true:=decide_eq_true (by omega)
      clear gm1
      go_wp2_with fail
      exact bodyPost_ret (results_tmp rfl _ _ _) rfl ⟨true,rfl,fun h => absurd h.symm Bool.false_ne_true,HBG.out⟩
     have hm1 : decide ((m.f1.size : Int) > 300) = false:=decide_eq_false (by omega)
     go_upto_block 4 with fail
     have HM5 : Aside0 (m.f5.length ≤ 300):=⟨by omega⟩
     generalize wr.alloc (Obj.cells (zH m D5 e5) 37) = W3 at HZ3 HB3 HC5 HBG k0 k1 k5 ⊢
     obtain ⟨q3,hq3⟩ : ∃ q,q = wr.heap.size:=⟨_,rfl⟩
     rw [← hq3] at HZ3 ⊢
     clear gm5 gm0 gm1 hm5 hm0 hm1 k0 k1 k5 h0 h1 h2 h3 h4 h5 q6 hdj hj0 hj1 hq3
     obtain ⟨n3,hn3⟩ : ∃ n3,n3 = m.f5.length:=⟨_,rfl⟩
     have HN3:=aq hn3
     clear hn3
     go_wp2_with fail
     go_loopg [7] n3 (fun kq v7 wk => ∃ (t : Nat),v7 = .int .i64 (t : Int) ∧ t + kq = n3 ∧ Aside0 (∀ y ∈ m.f5.take t,okI y) ∧ Aside0 (Below W3.heap.size W3 wk))
     case atStart => exact ⟨0,rfl,by omega,⟨fun y h => by cases h⟩,⟨Below.refl _ _⟩⟩
     case round =>
      obtain ⟨t,rfl,ht,HOI,HBI⟩:=hrel
      have q5 : wr.cell? ⟨q3,5,none⟩ = some (.slice D5 n3 e5):=by rw [HN3.out];exact blk_cell (blk_below HZ3.out HBI.out) 5
      have HBH : Aside0 (Below w.heap.size w wr):=⟨below_step HBG.out HBI.out⟩
      by_cases hlt : t < n3
      ·
       have hltX : t < m.f5.length:=by rw [← HN3.out];exact hlt
       obtain ⟨id,A8,c8,hA,h0,h1,h2,h3,h4,h5,h6,h7,h8,hl8,hC8⟩:=at_T74 (Kd.C_below HC5.out HBI.out) (t : Int) (by omega) (Int.ofNat_lt.2 hltX)
       obtain ⟨x,hx⟩ : ∃ x,m.f5[t] = x:=⟨_,rfl⟩
       have hrd : rd_T74 m.f5 (t : Int) = x:=by
        rw [← hx]
        unfold rd_T74
        rw [Int.toNat_natCast,List.getD_eq_getElem?_getD,List.getElem?_eq_getElem hltX]
        rfl
       rw [hrd,Int.toNat_natCast] at h0 h1 h2 h3 h4 h5 h6 h7 h8
       subst hA
       have HNI:=aq (fun hp => ok_next (p:=okI) HOI.out hltX hx hp)
       have hdt : decide ((t : Int) < (n3 : Int)) = true:=decide_eq_true (by omega)
       have ht0 : (0 : Int) ≤ (t : Int):=by omega
       have ht1 : (t : Int) < (n3 : Int):=by omega
       have HLI:=aq hlt
       obtain ⟨K3,hK3⟩ : ∃ K3,t + 1 + K3 = n3 ∧ K3 < gk:=⟨gk - 1,by omega⟩
       have HGI:=aq hK3
       clear hx hrd hl8 hC8 hltX hK3 ht hlt h0 h1 h2 h3 h4
       by_cases gi8 : 60 < x.f8.length
       ·
        have hi8 : decide ((x.f8.length : Int) > 60) = true:=decide_eq_true (by omega)
        clear gi8
        go_wp2_with fail
        exact bodyPost_ret (results_tmp rfl _ _ _) rfl ⟨true,rfl,fun h => absurd h.symm Bool.false_ne_true,HBH.out⟩
       have hi8 : decide ((x.f8.length : Int) > 60) = false:=decide_eq_false (by omega)
       by_cases gi5 : 300 < x.f5.size
       ·
        have hi5 : decide ((x.f5.size : Int) > 300) = true:=decide_eq_true (by omega)
        clear gi5
        go_wp2_with fail
        exact bodyPost_ret (results_tmp rfl _ _ _) rfl ⟨true,rfl,fun h => absurd h.symm Bool.false_ne_true,HBH.out⟩
       have hi5 : decide ((x.f5.size : Int) > 300) = false:=decide_eq_false (by omega)
       by_cases gi6 : 300 < x.f6.size
       ·
        have hi6 : decide ((x.f6.size : Int) > 300) = true:=decide_eq_true (by omega)
        clear gi6
        go_wp2_with fail
        exact bodyPost_ret (results_tmp rfl _ _ _) rfl ⟨true,rfl,fun h => absurd h.symm Bool.false_ne_true,HBH.out⟩
       have hi6 : decide ((x.f6.size : Int) > 300) = false:=decide_eq_false (by omega)
       by_cases gi7 : 300 < x.f7.size
       ·
        have hi7 : decide ((x.f7.size : Int) > 300) = true:=decide_eq_true (by omega)
        clear gi7
        go_wp2_with fail
        exact bodyPost_ret (results_tmp rfl _ _ _) rfl ⟨true,rfl,fun h => absurd h.symm Bool.false_ne_true,HBH.out⟩
       have hi7 : decide ((x.f7.size : Int) > 300) = false:=decide_eq_false (by omega)
       have HOK : Aside0 (okI x):=⟨by omega,by omega,by omega,by omega⟩
       clear gi8 gi5 gi6 gi7
       go_wp2_with fail
       go_roundg K3
       case measure => exact HGI.out.2
       case rel => exact ⟨t + 1,by rw [show wrap64 ((t : Int) + 1) = ((t + 1 : Nat) : Int) from wrap_next t n3 HLI.out (by have h1:=HM5.out;have h2:=HN3.out;omega)],HGI.out.1,⟨HNI.out HOK.out⟩,HBI⟩
      ·
       have hdt : decide ((t : Int) < (n3 : Int)) = false:=decide_eq_false (by omega)
       have HMM : Aside0 (okM m):=⟨HM5.out,ok_end HOI.out (by rw [← HN3.out];omega)⟩
       go_wp2_with fail
       go_roundg K2
       case measure => exact HGJ.out.2
       case rel => exact ⟨j + 1,by rw [show wrap64 ((j : Int) + 1) = ((j + 1 : Nat) : Int) from wrap_next j n2 HLJ.out (by have h1:=HM6.out;have h2:=HN2.out;omega)],HGJ.out.1,⟨HNM.out HMM.out⟩,⟨below_step HB3.out (HBI.out)⟩⟩
    ·
     have hdj : decide ((j : Int) < (n2 : Int)) = false:=decide_eq_false (by omega)
     have HMC : Aside0 (okC c):=⟨HM6.out.1,HM6.out.2,ok_end HOM.out (by rw [← HN2.out];omega)⟩
     go_wp2_with fail
     go_roundg K1
     case measure => exact HGO.out.2
     case rel => exact ⟨i + 1,by rw [show wrap64 ((i : Int) + 1) = ((i + 1 : Nat) : Int) from wrap_next i n HLT.out (by have h1:=HN70.out;omega)],HGO.out.1,⟨HNX.out HMC.out⟩,⟨below_step HB2.out HBM.out⟩⟩
  ·
   have hd : decide ((i : Int) < (n : Int)) = false:=decide_eq_false (by omega)
   have HBF:=aq (below_step HB1.out HBL.out)
   have HOE:=aq (ok_end HO.out (by rw [← HNN.out];omega))
   go_wp2_with fail
   exact bodyPost_ret (results_tmp rfl _ _ _) rfl ⟨false,rfl,fun _ => ⟨by rw [← HNN.out];exact HN70.out,HOE.out⟩,HBF.out⟩
end Go.Proofs.Ytfplcohjnlbfjaa.Hand
end

section
namespace Go.Proofs.Ytfplcohjnlbfjaa.HandV
open Go.Proofs.Ytfplcohjnlbfjaa.Hand Go.RowKit Go.Proofs.YtfplcohjnlbfjaaW.PrintWords Go.Proofs.YtfplcohjnlbfjaaW.PrintLast Go.Proofs.YtfplcohjnlbfjaaW.PrintMore
theorem rangeAt_sub {w : World} {b o : Nat} {cs vs : List Value} (h : w.rangeAt b o cs) (k n : Nat) (e : (cs.drop k).take n = vs) : w.rangeAt b (o + k) vs := fun j v hj => by
 subst e
 rw [List.getElem?_take] at hj
 split at hj
 ·
  rw [List.getElem?_drop] at hj
  rw [Nat.add_assoc]
  exact h _ _ hj
 ·
  cases hj
theorem row_atV {w : World} {base : Nat} {ok : Nat → Prop} {v : Value} {l : List CV} (h : Kd.R kCV 60 w base ok v l) (i : Nat) (hi : i < l.length) (c : CV) (hx : l[i]? = some c) :
  ∃ g cap,v = .slice (some ⟨g,0,none⟩) l.length cap ∧ w.rangeAt g (i * 38) ((kK c.f0 c.f1 (qL c.f2 (qL c.f3 (sL c.f4 (fL c.f5 (kS c.f6 (mL c.f7 [.slice c.f8.1 c.f8.2.1 c.f8.2.2])))))))):=by
 obtain ⟨inner,ho,hr⟩:=h.2
 obtain ⟨g,cap,rfl⟩:=Joins.ownsRow_form ho (by omega)
 obtain ⟨hn,hc,hC⟩:=Kd.R_reads' h
 obtain ⟨ad,cs,e,hl,hK,hc⟩:=Kd.C_get hC c (i : Int) (by omega) (Int.ofNat_lt.2 hi)
 cases e
 have hxx : l.getD (i : Int).toNat c = c:=by
  rw [List.getD_eq_getElem?_getD,show (i : Int).toNat = i from rfl,hx]
  rfl
 rw [hxx] at hK
 obtain rfl:=kCV_open hK
 refine ⟨g,cap,rfl,fun j u hj => ?_⟩
 have h1:=hc j u hj
 rw [Addr.add_mid,show (i : Int).toNat * kCV.sz + j = i * 38 + j from rfl,Nat.zero_add] at h1
 exact h1
def KnownV (l0 : List S33) (l1 : List ByteArray) (a2 a3 a4 : ByteArray) (x : S74) : Prop := ∃ kk r1 r2, Q54.sr25_Known.f kk l0 l1 a2 a3 a4 x.f0 x.f1 x.f2 x.f3 x.f4 x.f5 x.f6 x.f7 x.f8 = some (r1, r2) ∧ (r2 = true → r1 = x.f1 ∧ setsV l0 x = true)
theorem Made.sets {m : S25} {code : List S74} {l0 : List S33} {L : List CV} (h : Made m code l0 code.length L) (i : Nat) (hi : i < code.length) (hs : setsV l0 code[i] = true) : ∃ c ∈ L, c.f1 = (i : Int) ∧ c.f2 = (⟨1, m, code[i].f1, z44, z46⟩ : S50) := by
 obtain ⟨f,rfl,hf⟩:=h.ex
 obtain ⟨_,ha,hb⟩:=hf i hi hi
 obtain ⟨c,hc,e⟩:=hb hs
 exact ⟨c,List.mem_flatMap.2 ⟨i,List.mem_range.2 hi,hc⟩,(ha c hc).1,e⟩
def samePl (p : S50) (b0 b1 b2 : ByteArray) (r : Int) : Bool := decide (p.f0 = 1 ∧ p.f1.f0.toList = b0.toList ∧ p.f1.f1.toList = b1.toList ∧ p.f1.f2.toList = b2.toList ∧ p.f2 = r ∧ p.f3.f0.toList = [] ∧ p.f3.f1.toList = [] ∧ p.f4.f0.f0.toList = [] ∧ p.f4.f0.f1.toList = [] ∧ p.f4.f0.f2.toList = [] ∧ p.f4.f1 = 0 ∧ p.f4.f2.toList = [])
theorem emp_list : (⟨#[]⟩ : ByteArray).toList = [] := by first | rfl | (simp [go_sem]; done) | kernel_rfl | decide
theorem same_reg (b0 b1 b2 : ByteArray) (r : Int) : samePl (⟨1, ⟨b0, b1, b2⟩, r, z44, z46⟩ : S50) b0 b1 b2 r = true := decide_eq_true ⟨rfl, rfl, rfl, rfl, rfl, emp_list, emp_list, emp_list, emp_list, emp_list, rfl, emp_list⟩
theorem ite_and {α : Type} {p q : Prop} [Decidable p] [Decidable q] (f : Bool → α) : (if p then f (decide q) else f false) = f (decide (p ∧ q)) := by
 by_cases hp : p
 ·
  rw [if_pos hp]
  congr 1
  exact decide_eq_decide.2 ⟨fun h => ⟨hp,h⟩,fun h => h.2⟩
 ·
  rw [if_neg hp,decide_eq_false (fun h => hp h.1)]
theorem pl_chain {α : Type} (p : S50) (b0 b1 b2 : ByteArray) (r : Int) (f : Bool → α) : (if p.f0 = 1 then if p.f1.f0.toList = b0.toList then if p.f1.f1.toList = b1.toList then if p.f1.f2.toList = b2.toList then if p.f2 = r then if p.f3.f0.toList = [] then if p.f3.f1.toList = [] then if p.f4.f0.f0.toList = [] then if p.f4.f0.f1.toList = [] then if p.f4.f0.f2.toList = [] then if p.f4.f1 = 0 then if p.f4.f2.toList = [] then f true else f false else f false else f false else f false else f false else f false else f false else f false else f false else f false else f false else f false) = f (samePl p b0 b1 b2 r) := by
 have e : (if p.f4.f2.toList = [] then f true else f false) = f (decide (p.f4.f2.toList = [])):=by split <;> rename_i h <;> simp [h]
 unfold samePl
 rw [e,ite_and,ite_and,ite_and,ite_and,ite_and,ite_and,ite_and,ite_and,ite_and,ite_and,ite_and]
theorem GenSets_go (P : Nat → Prop) (A0 : Option Addr) (c0 : Nat) (l0 : List S33) (A1 : Option Addr) (c1 : Nat) (l1 : List ByteArray) (a2 a3 a4 : ByteArray) (px py : Int) (w : World) (hs : Kd.F k33 w P A0 l0.length l0) (hc : l0.length ≤ c0) (hr1 : Kd.C Kd.string w A1 l1.length l1) (hc1 : l1.length ≤ c1) (hM : MaxL w)
  (hx : 0 ≤ px ∧ px < 256) (hy : 0 ≤ py ∧ py < 256) (hz : (l0.length ≤ 70 ∧ ∀ c ∈ l0,okC c) → ∀ b0 b1 b2,(∀ x ∈ (getM l0 b0 b1 b2).f5,Sized l0 x) ∧ (getM l0 b0 b1 b2).f5.length ≤ 300) (hk : l0.length ≤ 70 → ∀ x,KnownV l0 l1 a2 a3 a4 x) :
  Calls Try.prog 7 #[.agg (pG A0 l0 c0 A1 l1 c1 a2 a3 a4),.int .u8 px,.int .u8 py] w fun e w' => e = .returned (.bool true) ∧ Below w.heap.size w w':=by
 have HB0:=aq (below_alloc (Below.refl w.heap.size w) (Obj.cells (pG A0 l0 c0 A1 l1 c1 a2 a3 a4) 27))
 have HP0:=aq (World.alloc_heap_new w (Obj.cells (pG A0 l0 c0 A1 l1 c1 a2 a3 a4) 27))
 have HRP:=aq (Kd.F_now hs)
 have HFS:=aq hs
 have HC0:=aq hc
 have HRS:=aq hr1
 have HC1:=aq hc1
 have HMX:=aq hM
 have HXY:=aq (And.intro hx hy)
 have HZ:=aq hz
 have HK:=aq hk
 have HG:=aq (law_great A0 c0 l0 A1 c1 l1 a2 a3 a4 (w.alloc (Obj.cells (pG A0 l0 c0 A1 l1 c1 a2 a3 a4) 27)) (Kd.C_below HRP.out HB0.out))
 obtain ⟨p0,p1,p2,p3,p4⟩:=cells5 HP0.out
 clear hs hc hr1 hc1 hM hx hy hz hk
 go_enter Try.func7,Try.ntmps7
 go_wp2_with fail
 refine HG.out.mono ?_
 rintro e w1 ⟨gr,rfl,hgr,hb⟩
 have HGR:=aq hgr
 have HB1:=aq (below_step HB0.out hb)
 have HP1:=aq (blk_below HP0.out hb)
 clear hb hgr p0 p1 p2 p3 p4 HG
 cases gr with
 | true =>
  go_wp2_with fail
  refine (gen_live w1).mono ?_
  rintro e w2 ⟨rfl,hb⟩
  have HB2:=aq (below_step HB1.out hb)
  clear hb
  go_wp2_with fail
  exact bodyPost_ret (results_tmp rfl _ _ _) rfl ⟨rfl,HB2.out⟩
 | false =>
  have HZ0:=aq (HZ.out (HGR.out rfl))
  have HKZ:=aq (HK.out (HGR.out rfl).1)
  clear HZ HK
  obtain ⟨p0,p1,p2,p3,p4⟩:=cells5 HP1.out
  go_wp2_with fail
  refine (law_method A0 c0 l0 A1 c1 l1 a2 a3 a4 px py w1 (Kd.C_below HRP.out HB1.out) HXY.out.1 HXY.out.2).mono ?_
  rintro e w2 ⟨b0,b1,b2,rfl,hb⟩
  have HZZ:=aq (HZ0.out b0 b1 b2)
  have HB2:=aq (below_step HB1.out hb)
  have HP2:=aq (blk_alloc (blk_below HP1.out hb) (Obj.cells #[.string b0,.string b1,.string b2] 25))
  have HM2:=aq (World.alloc_heap_new w2 (Obj.cells #[.string b0,.string b1,.string b2] 25))
  have HBA:=aq (below_alloc HB2.out (Obj.cells #[.string b0,.string b1,.string b2] 25))
  clear hb p0 p1 p2 p3 p4
  obtain ⟨p0,p1,p2,p3,p4⟩:=cells5 HP2.out
  obtain ⟨q0,q1,q2⟩:=cells3 HM2.out
  go_wp2_with fail
  refine (ref_get P A0 c0 l0 A1 c1 l1 a2 a3 a4 b0 b1 b2 _ (Kd.F_below HFS.out HBA.out) HC0.out (Kd.C_below HRS.out HBA.out) HC1.out).mono ?_
  rintro e w3 ⟨A5,c5,rfl,hfk,hb⟩
  obtain ⟨hc5,hF⟩:=method_code hfk
  have HB3:=aq (below_step HBA.out hb)
  have HP3:=aq (blk_alloc (blk_below HP2.out hb) (Obj.cells (zH (getM l0 b0 b1 b2) A5 c5) 37))
  have HM3:=aq (blk_alloc (blk_below HM2.out hb) (Obj.cells (zH (getM l0 b0 b1 b2) A5 c5) 37))
  have HK3:=aq (World.alloc_heap_new w3 (Obj.cells (zH (getM l0 b0 b1 b2) A5 c5) 37))
  have HBC:=aq (below_alloc HB3.out (Obj.cells (zH (getM l0 b0 b1 b2) A5 c5) 37))
  have HCD:=aq (Kd.C_below (Kd.F_now hF) (below_alloc (Below.refl _ _) (Obj.cells (zH (getM l0 b0 b1 b2) A5 c5) 37)))
  have HC5:=aq hc5
  clear hfk hb hF hc5 p0 p1 p2 p3 p4 q0 q1 q2
  obtain ⟨p0,p1,p2,p3,p4⟩:=cells5 HP3.out
  obtain ⟨q0,q1,q2⟩:=cells3 HM3.out
  go_wp2_with fail
  refine (gen_ofV P A0 c0 l0 A1 c1 l1 a2 a3 a4 b0 b1 b2 _ (Kd.F_below HFS.out HBC.out) HC0.out (Kd.C_below HRS.out HBC.out) HC1.out (max_below HMX.out HBC.out) (fun i hi => puts_all A0 c0 l0 A1 c1 l1 a2 a3 a4 HC0.out HC1.out _ _ _ (HZZ.out.1 _ (List.getElem_mem hi))) HZZ.out.2).mono ?_
  rintro e w4 ⟨v,L,rfl,hR,hMd,hb⟩
  obtain ⟨hm,hhm⟩ : ∃ hm,hm = w2.heap.size:=⟨_,rfl⟩
  obtain ⟨hk,hhk⟩ : ∃ hk,hk = w3.heap.size:=⟨_,rfl⟩
  have HB4:=aq (below_step HBC.out hb)
  have HP4:=aq (blk_below HP3.out hb)
  have HM4 : Aside0 (w4.heap[hm]? = some (Obj.cells #[.string b0,.string b1,.string b2] 25 (0,0))):=⟨by rw [hhm];exact blk_below HM3.out hb⟩
  have HK4 : Aside0 (w4.heap[hk]? = some (Obj.cells (zH (getM l0 b0 b1 b2) A5 c5) 37 (0,0))):=⟨by rw [hhk];exact blk_below HK3.out hb⟩
  have HCD4:=aq (Kd.C_below HCD.out hb)
  have HR4:=aq hR
  have HMD:=aq hMd
  rw [← hhm,← hhk]
  obtain ⟨AL,cL,hv⟩:=Kd.R_slice hR
  obtain ⟨nL,hnL⟩ : ∃ nL,nL = L.length:=⟨_,rfl⟩
  rw [← hnL] at hv
  subst hv
  have HNL:=aq hnL
  have HLL : Aside0 (L.length ≤ 3 * (getM l0 b0 b1 b2).f5.length):=⟨hMd.len (Nat.le_refl _)⟩
  obtain ⟨n,hn⟩ : ∃ n,n = (getM l0 b0 b1 b2).f5.length:=⟨_,rfl⟩
  have HNN:=aq hn
  clear hb p0 p1 p2 p3 p4 q0 q1 q2 hhm hhk hR hMd hnL hn HP3 HM3 HK3 HCD
  go_wp2_with fail
  go_loopg [11] n (fun kq v11 wr => ∃ (i : Nat),v11 = .int .i64 (i : Int) ∧ i + kq = n ∧ Aside0 (Below w4.heap.size w4 wr))
  case atStart => exact ⟨0,rfl,by omega,⟨Below.refl _ _⟩⟩
  case round =>
   obtain ⟨i,rfl,hi,HBL⟩:=hrel
   have e5 : wr.cell? ⟨hk,5,none⟩ = some (.slice A5 n c5):=by rw [HNN.out];exact blk_cell (blk_below HK4.out HBL.out) 5
   by_cases hlt : i < n
   ·
    have hltX : i < (getM l0 b0 b1 b2).f5.length:=by rw [← HNN.out];exact hlt
    obtain ⟨ad,A8,c8,hA,h0,h1,h2,h3,h4,h5,h6,h7,h8,hl8,hC8⟩:=at_T74 HCD4.out (i : Int) (by omega) (Int.ofNat_lt.2 hltX)
    have hx : rd_T74 (getM l0 b0 b1 b2).f5 (i : Int) = (getM l0 b0 b1 b2).f5[i]:=by
     unfold rd_T74
     rw [Int.toNat_natCast,List.getD_eq_getElem?_getD,List.getElem?_eq_getElem hltX]
     rfl
    obtain ⟨kk,r1,r2,hkn,hks⟩:=HKZ.out (getM l0 b0 b1 b2).f5[i]
    have hsx:=fun (h : r2 = true) => HMD.out.sets i hltX (hks h).2
    rw [hx,Int.toNat_natCast] at h0 h1 h2 h3 h4 h5 h6 h7 h8
    rw [hx] at hl8 hC8
    obtain ⟨x,hy⟩ : ∃ x,(getM l0 b0 b1 b2).f5[i] = x:=⟨_,rfl⟩
    rw [hy] at hkn hks hsx h0 h1 h2 h3 h4 h5 h6 h7 h8 hl8 hC8
    have hsr : r2 = true → ∃ c ∈ L,c.f1 = (i : Int) ∧ c.f2 = (⟨1,⟨b0,b1,b2⟩,r1,z44,z46⟩ : S50):=fun h => by rw [(hks h).1];exact hsx h
    subst hA
    have HB5X : Aside0 (Below w4.heap.size w4 wr.drew):=⟨HBL.out.trans (below_drew1 (Below.refl _ _))⟩
    have HBX : Aside0 (Below w.heap.size w wr.drew):=⟨below_step HB4.out HB5X.out⟩
    have HSX : Aside0 (w4.heap.size ≤ wr.drew.heap.size):=⟨HB5X.out.size⟩
    have hp:=blk_below HP4.out HB5X.out
    have z0 : wr.drew.cell? ⟨w.heap.size,0,none⟩ = some (.slice A0 l0.length c0):=blk_cell hp 0
    have z1 : wr.drew.cell? ⟨w.heap.size,1,none⟩ = some (.slice A1 l1.length c1):=blk_cell hp 1
    have z2 : wr.drew.cell? ⟨w.heap.size,2,none⟩ = some (.string a2):=blk_cell hp 2
    have z3 : wr.drew.cell? ⟨w.heap.size,3,none⟩ = some (.string a3):=blk_cell hp 3
    have z4 : wr.drew.cell? ⟨w.heap.size,4,none⟩ = some (.string a4):=blk_cell hp 4
    have z5 : wr.drew.cell? ⟨hk,5,none⟩ = some (.slice (some ad) n c5):=by rw [HNN.out];exact blk_cell (blk_below HK4.out HB5X.out) 5
    have z6 : wr.drew.cell? (ad.add (i * 9)) = some (.int .i64 x.f0):=sC HB5X.out h0
    have z7 : wr.drew.cell? ⟨(ad.add (i * 9)).block,(ad.add (i * 9)).off + 1,none⟩ = some (.int .i64 x.f1):=sC HB5X.out h1
    have z8 : wr.drew.cell? ⟨(ad.add (i * 9)).block,(ad.add (i * 9)).off + 2,none⟩ = some (.int .i64 x.f2):=sC HB5X.out h2
    have z9 : wr.drew.cell? ⟨(ad.add (i * 9)).block,(ad.add (i * 9)).off + 3,none⟩ = some (.int .i64 x.f3):=sC HB5X.out h3
    have z10 : wr.drew.cell? ⟨(ad.add (i * 9)).block,(ad.add (i * 9)).off + 4,none⟩ = some (.int .i64 x.f4):=sC HB5X.out h4
    have z11 : wr.drew.cell? ⟨(ad.add (i * 9)).block,(ad.add (i * 9)).off + 5,none⟩ = some (.string x.f5):=sC HB5X.out h5
    have z12 : wr.drew.cell? ⟨(ad.add (i * 9)).block,(ad.add (i * 9)).off + 6,none⟩ = some (.string x.f6):=sC HB5X.out h6
    have z13 : wr.drew.cell? ⟨(ad.add (i * 9)).block,(ad.add (i * 9)).off + 7,none⟩ = some (.string x.f7):=sC HB5X.out h7
    have z14 : wr.drew.cell? ⟨(ad.add (i * 9)).block,(ad.add (i * 9)).off + 8,none⟩ = some (.slice A8 x.f8.length c8):=sC HB5X.out h8
    have HL8:=aq hl8
    have HC8:=aq hC8
    have HKN:=aq hkn
    have HSR:=aq hsr
    have hd : decide ((i : Int) < (n : Int)) = true:=decide_eq_true (by omega)
    have hi0 : (0 : Int) ≤ (i : Int):=by omega
    have hi1 : (i : Int) < (n : Int):=by omega
    have HLT:=aq hlt
    obtain ⟨K1,hK1⟩ : ∃ K1,i + 1 + K1 = n ∧ K1 < gk:=⟨gk - 1,by omega⟩
    have HGO:=aq hK1
    clear hp hx hy hkn hks hsx hsr hl8 hC8 h0 h1 h2 h3 h4 h5 h6 h7 h8 hltX hK1
    go_wp2_with fail
    refine start_ (n:=12) (S:=fun w' => w'.cell? ⟨w.heap.size,0,none⟩ = some (.slice A0 l0.length c0) ∧ w'.cell? ⟨w.heap.size,1,none⟩ = some (.slice A1 l1.length c1) ∧ w'.cell? ⟨w.heap.size,2,none⟩ = some (.string a2) ∧ w'.cell? ⟨w.heap.size,3,none⟩ = some (.string a3) ∧ w'.cell? ⟨w.heap.size,4,none⟩ = some (.string a4) ∧ w'.cell? ⟨hk,5,none⟩ = some (.slice (some ad) n c5) ∧ w'.cell? (ad.add (i * 9)) = some (.int .i64 x.f0) ∧ w'.cell? ⟨(ad.add (i * 9)).block,(ad.add (i * 9)).off + 1,none⟩ = some (.int .i64 x.f1) ∧ w'.cell? ⟨(ad.add (i * 9)).block,(ad.add (i * 9)).off + 2,none⟩ = some (.int .i64 x.f2) ∧ w'.cell? ⟨(ad.add (i * 9)).block,(ad.add (i * 9)).off + 3,none⟩ = some (.int .i64 x.f3) ∧ w'.cell? ⟨(ad.add (i * 9)).block,(ad.add (i * 9)).off + 4,none⟩ = some (.int .i64 x.f4) ∧ w'.cell? ⟨(ad.add (i * 9)).block,(ad.add (i * 9)).off + 5,none⟩ = some (.string x.f5) ∧ w'.cell? ⟨(ad.add (i * 9)).block,(ad.add (i * 9)).off + 6,none⟩ = some (.string x.f6) ∧ w'.cell? ⟨(ad.add (i * 9)).block,(ad.add (i * 9)).off + 7,none⟩ = some (.string x.f7) ∧ w'.cell? ⟨(ad.add (i * 9)).block,(ad.add (i * 9)).off + 8,none⟩ = some (.slice A8 x.f8.length c8)) (ds:=[]) (Array.replicate 12 false) (by kernel_rfl) rfl rfl ⟨z0,z1,z2,z3,z4,z5,z6,z7,z8,z9,z10,z11,z12,z13,z14⟩ (fun hHeld => ?_)
    generalize wr.drew = X at HBX HB5X HSX z0 z1 z2 z3 z4 z5 z6 z7 z8 z9 z10 z11 z12 z13 z14 hHeld ⊢
    refine sP (i:=1) (N:=some 41) ?_
    refine sP (i:=3) (N:=some 43) ?_
    refine sT (i:=0) (N:=some 40) hHeld ?_
    refine sT (i:=2) (N:=some 42) hHeld ?_
    refine sP (i:=4) (N:=some 44) ?_
    refine sT (i:=5) (N:=some 45) hHeld ?_
    refine sO (i:=6) (N:=some 46) fun K hK => ?_
    refine sG Try.func30 #[.agg (pG A0 l0 c0 A1 l1 c1 a2 a3 a4),.agg #[.int .i64 x.f0,.int .i64 x.f1,.int .i64 x.f2,.int .i64 x.f3,.int .i64 x.f4,.string x.f5,.string x.f6,.string x.f7,.slice A8 x.f8.length c8]] ?_
    refine (Q54.sr25_Known.calls kk A0 c0 l0 A1 c1 l1 a2 a3 a4 x.f0 x.f1 x.f2 x.f3 x.f4 x.f5 x.f6 x.f7 A8 c8 x.f8 r1 r2 X (Kd.C_below HRP.out HBX.out) HC0.out (Kd.C_below HRS.out HBX.out) HC1.out (Kd.C_below HC8.out HB5X.out) HL8.out HKN.out).mono ?_
    rintro e w6 ⟨rfl,hb⟩
    refine ⟨_,rfl,?_⟩
    have y0:=sC hb z0
    have y1:=sC hb z1
    have y2:=sC hb z2
    have y3:=sC hb z3
    have y4:=sC hb z4
    have y5:=sC hb z5
    have y6:=sC hb z6
    have y7:=sC hb z7
    have y8:=sC hb z8
    have y9:=sC hb z9
    have y10:=sC hb z10
    have y11:=sC hb z11
    have y12:=sC hb z12
    have y13:=sC hb z13
    have y14:=sC hb z14
    have HB6:=aq (HB5X.out.trans (hb.mono HSX.out))
    clear hb
    refine hK.out _ _ ⟨y0,y1,y2,y3,y4,y5,y6,y7,y8,y9,y10,y11,y12,y13,y14⟩ (fun hHeld => ?_)
    clear hK K
    refine sN ?_
    refine sP (i:=7) (N:=some 39) ?_
    refine sP (i:=8) (N:=some 47) ?_
    refine sP (i:=9) (N:=some 48) ?_
    refine sP (i:=10) (N:=some 12) ?_
    refine sP (i:=11) (N:=some 13) ?_
    refine done_ (by kernel_rfl) ?_
    clear y0 y1 y2 y3 y4 y5 y6 y7 y8 y9 y10 y11 y12 y13 y14 hHeld
    have HIN:=aq (show i + gk = n from hi)
    clear hi hlt
    go_wp2_with fail
    go_loopg [14,15] nL (fun kq v14 v15 wi => ∃ (j : Nat) (th : Bool),v14 = .bool th ∧ v15 = .int .i64 (j : Int) ∧ j + kq = nL ∧ Aside0 (∀ t c,t < j → L[t]? = some c → c.f1 = (i : Int) → c.f2 = (⟨1,⟨b0,b1,b2⟩,r1,z44,z46⟩ : S50) → th = true) ∧ Aside0 (Below w4.heap.size w4 wi))
    case atStart => exact ⟨0,false,rfl,rfl,by omega,⟨fun t c h => absurd h (Nat.not_lt_zero _)⟩,HB6⟩
    case round =>
     obtain ⟨j,th,rfl,rfl,hj,HTH,HBJ⟩:=hrel
     have HBW:=aq (below_step HB4.out HBJ.out)
     by_cases hlj : j < nL
     ·
      have hljX : j < L.length:=by rw [← HNL.out];exact hlj
      obtain ⟨c,hcx⟩ : ∃ c,L[j]? = some c:=⟨_,List.getElem?_eq_getElem hljX⟩
      have HCX:=aq hcx
      obtain ⟨g,cap,eg,hrow⟩:=row_atV (Kd.R_below HR4.out HBJ.out) j hljX c hcx
      injection eg with eg e1_ e2_
      subst eg
      have hdj : decide ((j : Int) < (nL : Int)) = true:=decide_eq_true (by omega)
      have hj0 : (0 : Int) ≤ (j : Int):=by omega
      have hj1 : (j : Int) < (nL : Int):=by omega
      have HLJ:=aq hlj
      have HBX : Aside0 (Below w4.heap.size w4 wr.drew):=⟨HBJ.out.trans (below_drew1 (Below.refl _ _))⟩
      have HSX : Aside0 (w4.heap.size ≤ wr.drew.heap.size):=⟨HBX.out.size⟩
      have hm_:=blk_below HM4.out HBX.out
      have z0 : wr.drew.rangeAt g (j * 38) ((kK c.f0 c.f1 (qL c.f2 (qL c.f3 (sL c.f4 (fL c.f5 (kS c.f6 (mL c.f7 [.slice c.f8.1 c.f8.2.1 c.f8.2.2])))))))):=(World.rangeAt_drew _ _ _ _).2 hrow
      have z1 : wr.drew.cell? ⟨g,j * 38 + 1,none⟩ = some (.int .i64 c.f1):=z0 1 _ rfl
      have z2 : wr.drew.cell? ⟨hm,0,none⟩ = some (.string b0):=blk_cell hm_ 0
      have z3 : wr.drew.cell? ⟨hm,1,none⟩ = some (.string b1):=blk_cell hm_ 1
      have z4 : wr.drew.cell? ⟨hm,2,none⟩ = some (.string b2):=blk_cell hm_ 2
      obtain ⟨K2,hK2⟩ : ∃ K2,j + 1 + K2 = nL ∧ K2 < gk:=⟨gk - 1,by omega⟩
      have HGJ:=aq hK2
      clear hm_ hrow hcx hljX e1_ e2_ hK2 hj hlj
      cases th with
      | true =>
       go_wp2_with fail
       refine start_ (n:=22) (S:=fun w' => w'.rangeAt g (j * 38) ((kK c.f0 c.f1 (qL c.f2 (qL c.f3 (sL c.f4 (fL c.f5 (kS c.f6 (mL c.f7 [.slice c.f8.1 c.f8.2.1 c.f8.2.2])))))))) ∧ w'.cell? ⟨g,j * 38 + 1,none⟩ = some (.int .i64 c.f1) ∧ w'.cell? ⟨hm,0,none⟩ = some (.string b0) ∧ w'.cell? ⟨hm,1,none⟩ = some (.string b1) ∧ w'.cell? ⟨hm,2,none⟩ = some (.string b2)) (ds:=[]) (Array.replicate 22 false) (by kernel_rfl) rfl rfl ⟨z0,z1,z2,z3,z4⟩ (fun hHeld => ?_)
       generalize wr.drew = X at HBX HSX z0 z1 z2 z3 z4 hHeld ⊢
       refine sP (i:=0) (N:=some 55) ?_
       refine sP (i:=1) (N:=some 56) ?_
       refine sU (i:=2) (N:=some 57) ?_
       refine sU (i:=3) (N:=some 58) ?_
       refine sU (i:=4) (N:=some 59) ?_
       refine sU (i:=5) (N:=some 60) ?_
       refine sU (i:=6) (N:=some 61) ?_
       refine sU (i:=7) (N:=some 62) ?_
       refine sU (i:=8) (N:=some 63) ?_
       refine sU (i:=9) (N:=some 64) ?_
       refine sU (i:=10) (N:=some 65) ?_
       refine sU (i:=11) (N:=some 66) ?_
       refine sU (i:=12) (N:=some 67) ?_
       refine sU (i:=13) (N:=some 68) ?_
       refine sU (i:=14) (N:=some 69) ?_
       refine sU (i:=15) (N:=some 70) ?_
       refine sU (i:=16) (N:=some 71) ?_
       refine sU (i:=17) (N:=some 72) ?_
       refine sU (i:=18) (N:=some 73) ?_
       refine sU (i:=19) (N:=some 74) ?_
       refine sP (i:=20) (N:=some 75) ?_
       refine sP (i:=21) (N:=some 14) ?_
       refine done_ (by kernel_rfl) ?_
       go_wp2_with fail
       go_roundg K2
       case measure => exact HGJ.out.2
       case rel => exact ⟨j + 1,true,rfl,by rw [show wrap64 ((j : Int) + 1) = ((j + 1 : Nat) : Int) from by have h1:=HLL.out;have h2:=HNL.out;have h3:=HLJ.out;have h4:=HZZ.out.2;unfold wrap64;omega],HGJ.out.1,⟨fun _ _ _ _ _ _ => rfl⟩,HBX⟩
      | false =>
       by_cases hpc : c.f1 = (i : Int)
       ·
        have hq : (c.f1 == (i : Int)) = true:=by rw [hpc];exact beq_self_eq_true _
        have HPC:=aq hpc
        clear hpc
        go_wp2_with fail
        refine start_ (n:=22) (S:=fun w' => w'.rangeAt g (j * 38) ((kK c.f0 c.f1 (qL c.f2 (qL c.f3 (sL c.f4 (fL c.f5 (kS c.f6 (mL c.f7 [.slice c.f8.1 c.f8.2.1 c.f8.2.2])))))))) ∧ w'.cell? ⟨g,j * 38 + 1,none⟩ = some (.int .i64 c.f1) ∧ w'.cell? ⟨hm,0,none⟩ = some (.string b0) ∧ w'.cell? ⟨hm,1,none⟩ = some (.string b1) ∧ w'.cell? ⟨hm,2,none⟩ = some (.string b2)) (ds:=[]) (Array.replicate 22 false) (by kernel_rfl) rfl rfl ⟨z0,z1,z2,z3,z4⟩ (fun hHeld => ?_)
        generalize wr.drew = X at HBX HSX z0 z1 z2 z3 z4 hHeld ⊢
        refine sP (i:=0) (N:=some 55) ?_
        refine sP (i:=1) (N:=some 56) ?_
        refine sP (i:=2) (N:=some 57) ?_
        refine sP (i:=3) (N:=some 58) ?_
        refine sP (i:=4) (N:=some 59) ?_
        refine sP (i:=5) (N:=some 60) ?_
        refine sP (i:=7) (N:=some 62) ?_
        refine sT (i:=6) (N:=some 61) hHeld ?_
        refine sP (i:=8) (N:=some 63) ?_
        refine sP (i:=9) (N:=some 64) ?_
        refine sP (i:=10) (N:=some 65) ?_
        refine sP (i:=11) (N:=some 66) ?_
        refine sP (i:=12) (N:=some 67) ?_
        refine sP (i:=13) (N:=some 68) ?_
        refine sP (i:=16) (N:=some 71) ?_
        refine take_ (i:=14) (N:=some 69) (a':=?_) #[true,true,true,true,true,true,true,true,true,true,true,true,true,true,true,false,true,false,false,false,false,false] rfl rfl (by kernel_rfl) (fun _ _ _ h => h) (yieldsIf_load_mid (by rfl) 50 (.tmp 68) rfl g (j * 38 + 2) rfl ([.int .i64 c.f2.f0,.string c.f2.f1.f0,.string c.f2.f1.f1,.string c.f2.f1.f2,.int .i64 c.f2.f2,.string c.f2.f3.f0,.string c.f2.f3.f1,.string c.f2.f4.f0.f0,.string c.f2.f4.f0.f1,.string c.f2.f4.f0.f2,.int .i64 c.f2.f4.f1,.string c.f2.f4.f2]) _ (fun w' hw' => rangeAt_sub hw'.1 2 12 (by rfl)) Try.underlying50 rfl (by kernel_rfl)) hHeld ?_ ?_
        rotate_left
        ·
         simp only [Act.put,List.setIfInBounds_toArray,List.set_cons_zero,List.set_cons_succ,i64_w,i32_w]
         rfl
        refine sT (i:=15) (N:=some 70) hHeld ?_
        refine sO (i:=17) (N:=some 72) fun K hK => ?_
        refine sG Try.func13 #[.agg #[.string b0,.string b1,.string b2],.int .i64 r1] ?_
        refine (Q43.gen_Reg.calls b0 b1 b2 r1 1 b0 b1 b2 r1 ⟨#[]⟩ ⟨#[]⟩ ⟨#[]⟩ ⟨#[]⟩ ⟨#[]⟩ 0 ⟨#[]⟩ X rfl).mono ?_
        rintro e w7 ⟨rfl,hb⟩
        refine ⟨_,rfl,?_⟩
        have y0:=rangeAt_below z0 hb
        have y1:=sC hb z1
        have y2:=sC hb z2
        have y3:=sC hb z3
        have y4:=sC hb z4
        have HB7:=aq (HBX.out.trans (hb.mono HSX.out))
        clear hb
        refine hK.out _ _ ⟨y0,y1,y2,y3,y4⟩ (fun hHeld => ?_)
        clear hK K
        refine sN ?_
        refine pure_ (i:=18) (N:=some 73) (v:=?_) (a':=?_) #[true,true,true,true,true,true,true,true,true,true,true,true,true,true,true,true,true,true,true,false,false,false] rfl rfl (by kernel_rfl) (fun _ _ _ h => h) (Or.inl ⟨by rfl,?_⟩) ?_ ?_
        rotate_left
        ·
         intro w'
         go_simp
         exact pl_chain c.f2 b0 b1 b2 r1 (fun b => Result.ok (Next.value (Value.bool b)) w')
        rotate_left
        ·
         simp only [Act.put,List.setIfInBounds_toArray,List.set_cons_zero,List.set_cons_succ,i64_w,i32_w]
         rfl
        refine sP (i:=19) (N:=some 74) ?_
        refine sP (i:=20) (N:=some 75) ?_
        refine sP (i:=21) (N:=some 14) ?_
        refine done_ (by kernel_rfl) ?_
        clear y0 y1 y2 y3 y4 hHeld
        go_wp2_with fail
        go_roundg K2
        case measure => exact HGJ.out.2
        case rel => exact ⟨j + 1,samePl c.f2 b0 b1 b2 r1,rfl,by rw [show wrap64 ((j : Int) + 1) = ((j + 1 : Nat) : Int) from by have h1:=HLL.out;have h2:=HNL.out;have h3:=HLJ.out;have h4:=HZZ.out.2;unfold wrap64;omega],HGJ.out.1,⟨fun t c' ht hc' h1 h2 => by
         rcases Nat.lt_succ_iff_lt_or_eq.1 ht with h|h
         ·
          exact absurd (HTH.out t c' h hc' h1 h2) Bool.false_ne_true
         ·
          subst h
          obtain rfl : c' = c:=Option.some.inj (hc'.symm.trans HCX.out)
          rw [h2];exact same_reg b0 b1 b2 r1⟩,HB7⟩
       ·
        have hq : (c.f1 == (i : Int)) = false:=beq_eq_false_iff_ne.2 hpc
        have HPC:=aq hpc
        clear hpc
        go_wp2_with fail
        refine start_ (n:=22) (S:=fun w' => w'.rangeAt g (j * 38) ((kK c.f0 c.f1 (qL c.f2 (qL c.f3 (sL c.f4 (fL c.f5 (kS c.f6 (mL c.f7 [.slice c.f8.1 c.f8.2.1 c.f8.2.2])))))))) ∧ w'.cell? ⟨g,j * 38 + 1,none⟩ = some (.int .i64 c.f1) ∧ w'.cell? ⟨hm,0,none⟩ = some (.string b0) ∧ w'.cell? ⟨hm,1,none⟩ = some (.string b1) ∧ w'.cell? ⟨hm,2,none⟩ = some (.string b2)) (ds:=[]) (Array.replicate 22 false) (by kernel_rfl) rfl rfl ⟨z0,z1,z2,z3,z4⟩ (fun hHeld => ?_)
        generalize wr.drew = X at HBX HSX z0 z1 z2 z3 z4 hHeld ⊢
        refine sP (i:=0) (N:=some 55) ?_
        refine sP (i:=1) (N:=some 56) ?_
        refine sP (i:=2) (N:=some 57) ?_
        refine sP (i:=3) (N:=some 58) ?_
        refine sP (i:=4) (N:=some 59) ?_
        refine sP (i:=5) (N:=some 60) ?_
        refine sP (i:=7) (N:=some 62) ?_
        refine sT (i:=6) (N:=some 61) hHeld ?_
        refine sP (i:=8) (N:=some 63) ?_
        refine sP (i:=9) (N:=some 64) ?_
        refine sU (i:=10) (N:=some 65) ?_
        refine sU (i:=11) (N:=some 66) ?_
        refine sU (i:=12) (N:=some 67) ?_
        refine sU (i:=13) (N:=some 68) ?_
        refine sU (i:=14) (N:=some 69) ?_
        refine sU (i:=15) (N:=some 70) ?_
        refine sU (i:=16) (N:=some 71) ?_
        refine sU (i:=17) (N:=some 72) ?_
        refine sU (i:=18) (N:=some 73) ?_
        refine sP (i:=19) (N:=some 74) ?_
        refine sP (i:=20) (N:=some 75) ?_
        refine sP (i:=21) (N:=some 14) ?_
        refine done_ (by kernel_rfl) ?_
        go_wp2_with fail
        go_roundg K2
        case measure => exact HGJ.out.2
        case rel => exact ⟨j + 1,false,rfl,by rw [show wrap64 ((j : Int) + 1) = ((j + 1 : Nat) : Int) from by have h1:=HLL.out;have h2:=HNL.out;have h3:=HLJ.out;have h4:=HZZ.out.2;unfold wrap64;omega],HGJ.out.1,⟨fun t c' ht hc' h1 h2 => by
         rcases Nat.lt_succ_iff_lt_or_eq.1 ht with h|h
         ·
          exact HTH.out t c' h hc' h1 h2
         ·
          subst h
          obtain rfl : c' = c:=Option.some.inj (hc'.symm.trans HCX.out)
          exact absurd h1 HPC.out⟩,HBX⟩
     ·
      obtain rfl : j = nL:=by omega
      have hdj : decide ((j : Int) < (j : Int)) = false:=decide_eq_false (by omega)
      have hend : r2 = true → th = true:=fun h => by
       obtain ⟨c,hc,h1,h2⟩:=HSR.out h
       obtain ⟨t,ht,he⟩:=List.getElem_of_mem hc
       exact HTH.out t c (by rw [HNL.out];exact ht) (by rw [List.getElem?_eq_getElem ht,he]) h1 h2
      cases r2 with
      | false =>
       clear hend
       go_wp2_with fail
       go_roundg K1
       case measure => exact HGO.out.2
       case rel => exact ⟨i + 1,by rw [show wrap64 ((i : Int) + 1) = ((i + 1 : Nat) : Int) from by have h2:=HNN.out;have h3:=HLT.out;have h4:=HZZ.out.2;unfold wrap64;omega],HGO.out.1,HBJ⟩
      | true =>
       obtain rfl:=hend rfl
       clear hend
       go_wp2_with fail
       go_roundg K1
       case measure => exact HGO.out.2
       case rel => exact ⟨i + 1,by rw [show wrap64 ((i : Int) + 1) = ((i + 1 : Nat) : Int) from by have h2:=HNN.out;have h3:=HLT.out;have h4:=HZZ.out.2;unfold wrap64;omega],HGO.out.1,HBJ⟩
   ·
    have hd : decide ((i : Int) < (n : Int)) = false:=decide_eq_false (by omega)
    have HBW:=aq (below_step HB4.out HBL.out)
    go_wp2_with fail
    refine (gen_live wr).mono ?_
    rintro e w9 ⟨rfl,hb⟩
    have HB9:=aq (below_step HBW.out hb)
    clear hb
    go_wp2_with fail
    exact bodyPost_ret (results_tmp rfl _ _ _) rfl ⟨rfl,HB9.out⟩
theorem shape6 (e : Nat) (x : Int) (b : Bool) : ∃ s, Q54.sr07_Shape.j6 (e + 1) x b = some s ∧ s.size ≤ 4 := by
  unfold Q54.sr07_Shape.j6
  try dsimp only
  repeat' split
  all_goals first|exact ⟨_,rfl,by decide⟩
theorem shape5 (e : Nat) (x : Int) (b : Bool) : ∃ s, Q54.sr07_Shape.j5 (e + 2) x b = some s ∧ s.size ≤ 4 := by
  unfold Q54.sr07_Shape.j5
  try dsimp only
  repeat' split
  all_goals first|exact ⟨_,rfl,by decide⟩|exact shape6 e _ _
theorem shape4 (e : Nat) (x : Int) (b : Bool) : ∃ s, Q54.sr07_Shape.j4 (e + 3) x b = some s ∧ s.size ≤ 4 := by
  unfold Q54.sr07_Shape.j4
  try dsimp only
  repeat' split
  all_goals first|exact ⟨_,rfl,by decide⟩|exact shape5 e _ _
theorem shape3 (e : Nat) (x : Int) (b : Bool) : ∃ s, Q54.sr07_Shape.j3 (e + 4) x b = some s ∧ s.size ≤ 4 := by
  unfold Q54.sr07_Shape.j3
  try dsimp only
  repeat' split
  all_goals first|exact ⟨_,rfl,by decide⟩|exact shape4 e _ _
theorem shape2 (e : Nat) (x : Int) (b : Bool) : ∃ s, Q54.sr07_Shape.j2 (e + 5) x b = some s ∧ s.size ≤ 4 := by
  unfold Q54.sr07_Shape.j2
  try dsimp only
  repeat' split
  all_goals first|exact ⟨_,rfl,by decide⟩|exact shape3 e _ _
theorem shape1 (e : Nat) (x : Int) (b : Bool) : ∃ s, Q54.sr07_Shape.j1 (e + 6) x b = some s ∧ s.size ≤ 4 := by
  unfold Q54.sr07_Shape.j1
  try dsimp only
  repeat' split
  all_goals first|exact ⟨_,rfl,by decide⟩|exact shape2 e _ _
theorem shape0 (e : Nat) (x : Int) (b : Bool) : ∃ s, Q54.sr07_Shape.j0 (e + 7) x b = some s ∧ s.size ≤ 4 := by
  unfold Q54.sr07_Shape.j0
  try dsimp only
  repeat' split
  all_goals first|exact ⟨_,rfl,by decide⟩|exact shape1 e _ _
theorem shape_ok (e : Nat) (x : Int) : ∃ s, Q54.sr07_Shape.f (e + 7) x = some s ∧ s.size ≤ 4 := by
  unfold Q54.sr07_Shape.f
  repeat' split
  all_goals first|exact ⟨_,rfl,by decide⟩|exact shape0 e _ _
theorem has_ok (s : ByteArray) (c : Int) (hs : s.size ≤ 4) : ∀ d k i, i + d = s.size → d < k → ∃ b, Q54.sr07_Has.l0 k s c (i : Int) = some b
  | _,0,_,_,h => absurd h (Nat.not_lt_zero _)
  | 0,k + 1,i,hi,_ => by
    unfold Q54.sr07_Has.l0
    rw [if_neg (by omega)]
    exact ⟨_,rfl⟩
  | d + 1,k + 1,i,hi,hk => by
    unfold Q54.sr07_Has.l0
    rw [if_pos (by omega),if_pos (by omega)]
    split
    · exact ⟨_,rfl⟩
    · rw [wrap_next i s.size (by omega) (by omega)]
      exact has_ok s c hs d k (i + 1) (by omega) (by omega)
theorem sets_ok (e : Nat) (x : S74) : ∃ r, Q54.sr07_Sets.f (e + 7) x.f0 x.f1 x.f2 x.f3 x.f4 x.f5 x.f6 x.f7 x.f8 = some r ∧ (r.2 = true → r.1 = x.f1 ∧ (x.f0 = 19 ∨ x.f0 = 20 ∨ x.f0 = 21 → ansB x.f7 = true)) := by
  obtain ⟨s,h1,h2⟩:=shape_ok e x.f0
  obtain ⟨b,h3⟩:=has_ok s 97 h2 s.size (e + 7) 0 (by omega) (by omega)
  have hz : ∃ r,Q54.sr07_Sets.j0 (e + 7) true x.f0 x.f1 x.f2 x.f3 x.f4 x.f5 x.f6 x.f7 x.f8 = some r ∧ (r.2 = true → r.1 = x.f1 ∧ (x.f0 = 19 ∨ x.f0 = 20 ∨ x.f0 = 21 → ansB x.f7 = true)):=by
    exact ⟨(0,false),rfl,fun h => by cases h⟩
  have hj : ∀ t,∃ r,Q54.sr07_Sets.j0 (e + 7) t x.f0 x.f1 x.f2 x.f3 x.f4 x.f5 x.f6 x.f7 x.f8 = some r ∧ (r.2 = true → r.1 = x.f1 ∧ (x.f0 = 19 ∨ x.f0 = 20 ∨ x.f0 = 21 → ansB x.f7 = true)):=by
    intro t
    cases t with
    | true => exact hz
    | false =>
      unfold Q54.sr07_Sets.j0
      try dsimp only
      rw [if_neg Bool.false_ne_true]
      have hc : Q54.sr07_IsCall.f x.f0 = some (decide (x.f0 = 19 ∨ x.f0 = 20 ∨ x.f0 = 21)):=by
        unfold Q54.sr07_IsCall.f
        by_cases a1 : x.f0 = 19
        · rw [if_pos a1,decide_eq_true (.inl a1)]
        rw [if_neg a1]
        by_cases a2 : x.f0 = 20
        · rw [if_pos a2,decide_eq_true (.inr (.inl a2))]
        rw [if_neg a2]
        by_cases a3 : x.f0 = 21
        · rw [decide_eq_true (.inr (.inr a3)),a3]
          rfl
        · rw [decide_eq_false (by omega),beq_eq_false_iff_ne.2 a3]
      rw [hc,Option.bind_some]
      by_cases hd : x.f0 = 19 ∨ x.f0 = 20 ∨ x.f0 = 21
      · rw [decide_eq_true hd,if_pos rfl]
        unfold sr06_Split.f
        rw [Option.bind_some]
        by_cases he : (splitD classL (bl x.f7)).2.2 = 0
        · rw [if_pos he]
          by_cases hr : (splitD classL (bl x.f7)).2.1.1 = 1
          · rw [if_pos hr]
            exact ⟨_,rfl,fun h => by cases h⟩
          · rw [if_neg hr]
            exact ⟨_,rfl,fun _ => ⟨rfl,fun _ => by unfold ansB;rw [decide_eq_true he,decide_eq_true hr];rfl⟩⟩
        · rw [if_neg he]
          exact ⟨_,rfl,fun h => by cases h⟩
      · rw [decide_eq_false hd,if_neg Bool.false_ne_true]
        exact ⟨_,rfl,fun _ => ⟨rfl,fun h => absurd h hd⟩⟩
  unfold Q54.sr07_Sets.f Q54.sr07_Has.f
  rw [h1,Option.bind_some,show (0 : Int) = ((0 : Nat) : Int) from rfl,h3,Option.bind_some]
  split
  · exact hj _
  · exact hz
theorem upF_len : ∀ (k : Nat) (l : List S33) (had : List ByteArray) (nm : ByteArray), (upF k l had nm).length ≤ k
  | 0,_,_,_ => Nat.le_refl 0
  | k + 1,l,had,nm => by
    unfold upF
    split
    · rw [List.length_cons]
      split
      · exact Nat.succ_le_succ (Nat.zero_le _)
      · exact Nat.succ_le_succ (upF_len k l _ _)
    · exact Nat.zero_le _
theorem field_l0 (l0 : List S33) (l1 : List ByteArray) (a2 a3 a4 : ByteArray) (cl n : ByteArray) (xs : List ByteArray) (hx : xs.length ≤ 1000) : ∀ d k i, i + d = xs.length → d < k → Q54.sr12_Field.l0 k xs (i : Int) l0 l1 a2 a3 a4 cl n = some (fldF l0 (xs.drop i) n)
  | _,0,_,_,h => absurd h (Nat.not_lt_zero _)
  | 0,k + 1,i,hi,_ => by
    unfold Q54.sr12_Field.l0
    rw [if_neg (by omega),List.drop_eq_nil_of_le (by omega)]
    rfl
  | d + 1,k + 1,i,hi,hk => by
    have hlt : i < xs.length:=by omega
    have hr : rdOf ByteArray.empty xs (i : Int) = xs[i]:=by
      unfold rdOf
      rw [Int.toNat_natCast,List.getD_eq_getElem?_getD,List.getElem?_eq_getElem hlt]
      rfl
    unfold Q54.sr12_Field.l0
    rw [if_pos (by omega),if_pos (by omega),hr]
    unfold sr12_FieldOf.f
    rw [Option.bind_some]
    rw [List.drop_eq_getElem_cons hlt]
    unfold fldF
    rw [List.find?_cons]
    by_cases hh : hasFd l0 xs[i] n = true
    · rw [if_pos hh,hh]
    · rw [if_neg hh,eq_false_of_ne_true hh,wrap_next i _ hlt (by omega),field_l0 l0 l1 a2 a3 a4 cl n xs hx d k (i + 1) (by omega) (by omega)]
      rfl
theorem isref_ok (a : Int) (s : ByteArray) : ∃ b, Q54.sr06_IsRef.f a s = some b := by
  unfold Q54.sr06_IsRef.f
  repeat' split
  all_goals exact ⟨_,rfl⟩
def KGoal (x7 x12 x16 : Bool) (op x6 : Int) (l8 : List Int) (early : Prop) (r : Int × Bool) : Prop := r.2 = true → x7 = true ∧ r.1 = x6 ∧ (early ∨ (op = 15 ∨ op = 17) ∧ x12 = true ∨ op = 19 ∧ x16 = true ∨ (op = 20 ∨ op = 21) ∧ 0 < l8.length)
theorem known_j1 (k : Nat) (x6 : Int) (x7 x12 x16 : Bool) (op : Int) (fl : Bool) (hf : fl = true → op = 15 ∨ op = 17) (y0 y1 y2 y3 y4 : Int) (y5 y6 y7 : ByteArray) (l8 : List Int) (z0 : Int) (z1 z2 : ByteArray) (z3 : Int) (z4 : ByteArray) (z5 : Bool) :
    ∃ r,Q54.sr25_Known.j1 (k + 1) x6 x7 x12 x16 op fl y0 y1 y2 y3 y4 y5 y6 y7 l8 z0 z1 z2 z3 z4 z5 = some r ∧ KGoal x7 x12 x16 op x6 l8 False r:=by
  obtain ⟨b1,e1⟩:=isref_ok z3 z4
  obtain ⟨b2,e2⟩:=isref_ok z0 z1
  unfold Q54.sr25_Known.j1 KGoal
  try dsimp only
  rw [e1,e2]
  repeat' split
  all_goals first
    | exact ⟨_,rfl,fun h => absurd h Bool.false_ne_true⟩
    | (refine ⟨_,rfl,fun h => ⟨by assumption,rfl,?_⟩⟩
       first
       | exact .inr (.inl ⟨hf (by assumption),by assumption⟩)
       | exact .inr (.inr (.inl ⟨by assumption,by assumption⟩))
       | exact .inr (.inr (.inr ⟨.inl (by assumption),by omega⟩))
       | exact .inr (.inr (.inr ⟨.inr (by assumption),by omega⟩)))
theorem known_j0 (k : Nat) (x6 : Int) (x7 x12 x16 : Bool) (op : Int) (fl : Bool) (y0 y1 y2 y3 y4 : Int) (y5 y6 y7 : ByteArray) (l8 : List Int) (z0 : Int) (z1 z2 : ByteArray) (z3 : Int) (z4 : ByteArray) (z5 : Bool) :
    ∃ r,Q54.sr25_Known.j0 (k + 2) x6 x7 x12 x16 op fl y0 y1 y2 y3 y4 y5 y6 y7 l8 z0 z1 z2 z3 z4 z5 = some r ∧ KGoal x7 x12 x16 op x6 l8 (fl = true) r:=by
  have weak : ∀ f',(f' = true → op = 15 ∨ op = 17) → fl = false → ∃ r,Q54.sr25_Known.j1 (k + 1) x6 x7 x12 x16 op f' y0 y1 y2 y3 y4 y5 y6 y7 l8 z0 z1 z2 z3 z4 z5 = some r ∧ KGoal x7 x12 x16 op x6 l8 (fl = true) r:=fun f' hf hfl => by
    obtain ⟨r,h1,h2⟩:=known_j1 k x6 x7 x12 x16 op f' hf y0 y1 y2 y3 y4 y5 y6 y7 l8 z0 z1 z2 z3 z4 z5
    refine ⟨r,h1,fun h => ?_⟩
    obtain ⟨g1,g2,g3⟩:=h2 h
    exact ⟨g1,g2,g3.elim (fun h => h.elim) .inr⟩
  unfold Q54.sr25_Known.j0
  try dsimp only
  cases fl with
  | true =>
    rw [if_pos rfl]
    exact ⟨_,rfl,fun h => ⟨h,rfl,.inl rfl⟩⟩
  | false =>
    rw [if_neg Bool.false_ne_true]
    split
    · rename_i h15
      exact weak _ (fun _ => .inl h15) rfl
    · exact weak _ (fun h => .inr (eq_of_beq h)) rfl
theorem known_ok (l0 : List S33) (l1 : List ByteArray) (a2 a3 a4 : ByteArray) (x : S74) (h0 : l0.length ≤ 70) : KnownV l0 l1 a2 a3 a4 x := by
  have hsl : (supS l0 x.f5).length ≤ 71:=Nat.le_trans (upF_len _ _ _ _) (by omega)
  obtain ⟨⟨s1,s2⟩,hs,hsp⟩:=sets_ok 93 x
  have hsup : sr11_Supers.f l0 l1 a2 a3 a4 x.f5 = some (supS l0 x.f5):=if_pos (by omega)
  have hfl : Q54.sr12_Field.f 100 l0 l1 a2 a3 a4 x.f5 x.f6 = some (fldF l0 (supS l0 x.f5) x.f6):=by
    unfold Q54.sr12_Field.f
    rw [hsup,Option.bind_some]
    exact field_l0 l0 l1 a2 a3 a4 x.f5 x.f6 (supS l0 x.f5) (by omega) (supS l0 x.f5).length 100 0 (by omega) (by omega)
  have hst : sr12_Static.f l0 l1 a2 a3 a4 x.f5 x.f6 x.f7 = some (decS l0 (supS l0 x.f5) x.f6 x.f7):=by
    unfold sr12_Static.f
    rw [hsup,Option.bind_some,if_pos (by omega)]
  have key : ∃ r,Q54.sr25_Known.f 100 l0 l1 a2 a3 a4 x.f0 x.f1 x.f2 x.f3 x.f4 x.f5 x.f6 x.f7 x.f8 = some r ∧ KGoal s2 (fldF l0 (supS l0 x.f5) x.f6).2.2 (decS l0 (supS l0 x.f5) x.f6 x.f7).2.2.2 x.f0 s1 x.f8 (x.f0 = 4 ∨ x.f0 = 9 ∨ x.f0 = 10 ∨ x.f0 = 11 ∨ x.f0 = 13 ∨ x.f0 = 25 ∨ x.f0 = 28) r:=by
    unfold Q54.sr25_Known.f
    rw [hs,Option.bind_some]
    unfold sr06_Split.f
    rw [Option.bind_some,hfl,Option.bind_some]
    unfold sr12_FieldOf.f
    rw [Option.bind_some,hst,Option.bind_some]
    have weak : ∀ {fl : Bool} {k x6 x7 x12 x16 op y0 y1 y2 y3 y4 y5 y6 y7 l8 z0 z1 z2 z3 z4 z5},(fl = true → op = 4 ∨ op = 9 ∨ op = 10 ∨ op = 11 ∨ op = 13 ∨ op = 25 ∨ op = 28) → ∃ r,Q54.sr25_Known.j0 (k + 2) x6 x7 x12 x16 op fl y0 y1 y2 y3 y4 y5 y6 y7 l8 z0 z1 z2 z3 z4 z5 = some r ∧ KGoal x7 x12 x16 op x6 l8 (op = 4 ∨ op = 9 ∨ op = 10 ∨ op = 11 ∨ op = 13 ∨ op = 25 ∨ op = 28) r:=by
      intro fl k x6 x7 x12 x16 op y0 y1 y2 y3 y4 y5 y6 y7 l8 z0 z1 z2 z3 z4 z5 hf
      obtain ⟨r,h1,h2⟩:=known_j0 k x6 x7 x12 x16 op fl y0 y1 y2 y3 y4 y5 y6 y7 l8 z0 z1 z2 z3 z4 z5
      refine ⟨r,h1,fun h => ?_⟩
      obtain ⟨g1,g2,g3⟩:=h2 h
      exact ⟨g1,g2,g3.elim (fun h => .inl (hf h)) .inr⟩
    repeat' split
    all_goals refine weak (k:=98) (fun h => ?_)
    all_goals (have h':=eq_of_beq h;omega)
  obtain ⟨⟨r1,r2⟩,hk,hg⟩:=key
  refine ⟨100,r1,r2,hk,fun h => ?_⟩
  obtain ⟨g1,g2,g3⟩:=hg h
  obtain ⟨p1,p2⟩:=hsp g1
  refine ⟨g2.trans p1,?_⟩
  unfold setsV
  rcases g3 with g|⟨g,gf⟩|⟨g,gf⟩|⟨g,gf⟩
  · rw [if_neg (by omega),if_neg (by omega),if_neg (by omega),if_pos (by omega)]
  · rw [if_pos g]
    exact gf
  · rw [if_neg (by omega),if_pos g,gf,p2 (.inl g)]
    rfl
  · rw [if_neg (by omega),if_neg (by omega),if_pos g,p2 (.inr g)]
    rw [show x.f8.isEmpty = false from by cases hx : x.f8 with|nil => rw [hx] at gf;exact absurd gf (Nat.lt_irrefl _)|cons a b => rfl]
    rfl
theorem getM_ok {l0 : List S33} (h : ∀ c ∈ l0, okC c) (b0 b1 b2 : ByteArray) : okM (getM l0 b0 b1 b2) := by
  have hz : okM z37:=⟨Nat.zero_le _,fun x hx => by cases hx⟩
  unfold getM knownC
  cases e : l0.find? (isC b0) with
  | none => exact hz
  | some c =>
    cases e2 : c.f6.find? (isM b1 b2) with
    | none => rw [Option.getD_some,e2];exact hz
    | some m => rw [Option.getD_some,e2];exact (h c (List.mem_of_find?_eq_some e)).2.2 m (List.mem_of_find?_eq_some e2)
theorem GenSets_all (P : Nat → Prop) (A0 : Option Addr) (c0 : Nat) (l0 : List S33) (A1 : Option Addr) (c1 : Nat) (l1 : List ByteArray) (a2 a3 a4 : ByteArray) (px py : Int) (w : World) (hs : Kd.F k33 w P A0 l0.length l0) (hc : l0.length ≤ c0) (hr1 : Kd.C Kd.string w A1 l1.length l1) (hc1 : l1.length ≤ c1) (hM : MaxL w) (hx : 0 ≤ px ∧ px < 256) (hy : 0 ≤ py ∧ py < 256) :
    Calls Try.prog 7 #[.agg (pG A0 l0 c0 A1 l1 c1 a2 a3 a4),.int .u8 px,.int .u8 py] w fun e w' => e = .returned (.bool true) ∧ Below w.heap.size w w':=by
  refine GenSets_go P A0 c0 l0 A1 c1 l1 a2 a3 a4 px py w hs hc hr1 hc1 hM hx hy (fun h b0 b1 b2 => ?_) (fun h x => known_ok l0 l1 a2 a3 a4 x h)
  obtain ⟨q1,q2⟩:=h
  obtain ⟨m1,m2⟩:=getM_ok q2 b0 b1 b2
  refine ⟨fun x hx => ?_,m1⟩
  obtain ⟨i1,i2,i3,i4⟩:=m2 x hx
  exact ⟨by omega,fun c hc => by have:=(q2 c hc).2.1;omega,by omega,by omega,by omega⟩
end Go.Proofs.Ytfplcohjnlbfjaa.HandV
end

section
namespace Go.Proofs.Ytfplcohjnlbfjaa.Hand
open Go.ChangeShapes Go.WideShapes Go.ChangeAt Go.RowKit Go.Proofs.YtfplcohjnlbfjaaW.PrintWords Go.Proofs.YtfplcohjnlbfjaaW.PrintLast Go.Proofs.YtfplcohjnlbfjaaW.PrintMore
section
variable {H : Type} {enc : TypeId × Value → H} {P : Program} {w : World} {base : Nat} {spare : Nat → Bool} {held : Bool}
end
end Go.Proofs.Ytfplcohjnlbfjaa.Hand
end

section
namespace Go.Proofs.Ytfplcohjnlbfjaa.Hand
open Go.ChangeShapes Go.WideShapes Go.ChangeAt Go.Joins Go.Deep Go.RowKit Go.Proofs.YtfplcohjnlbfjaaW.PrintWords Go.Proofs.YtfplcohjnlbfjaaW.PrintLast Go.Proofs.YtfplcohjnlbfjaaW.PrintMore
namespace Op
theorem list_each {α : Type} {Q : Nat → α → Prop} : ∀ (n : Nat), (∀ i, i < n → ∃ a, Q i a) → ∃ l : List α, l.length = n ∧ ∀ i a, l[i]? = some a → Q i a
 | 0,_ => ⟨[],rfl,fun i a h => by simp at h⟩
 | n + 1,h => by
  obtain ⟨l,hl,hq⟩:=list_each n fun i hi => h i (by omega)
  obtain ⟨a,ha⟩:=h n (by omega)
  refine ⟨l ++ [a],by simp [hl],fun i b hb => ?_⟩
  by_cases hi : i < l.length
  ·
   rw [List.getElem?_append_left hi] at hb
   exact hq i b hb
  ·
   rw [List.getElem?_append_right (by omega)] at hb
   have h0 : i - l.length = 0:=by
    have:=(List.getElem?_eq_some_iff.1 hb).1
    simp at this
    omega
   rw [h0] at hb
   simp at hb
   have : i = n:=by omega
   rw [this,← hb]
   exact ha
theorem add_add (a : Addr) (i j : Nat) : (a.add i).add j = a.add (i + j) := by
 unfold Addr.add
 by_cases hi : i = 0
 ·
  subst hi;simp
 ·
  by_cases hj : j = 0
  ·
   subst hj;simp
  ·
   rw [if_neg hi,if_neg hj,if_neg (by omega),Nat.add_assoc]
theorem cells_each {w : World} {base n : Nat} {a : Addr} {cs : List Value} (h : w.cells? base a n = some cs) : cs.length = n ∧ ∀ j u, cs[j]? = some u → w.cell? (a.add j) = some u := by
 unfold World.cells? at h
 split at h
 ·
  have hl:=mapM_some_length h
  rw [List.length_range] at hl
  refine ⟨hl,fun j u hu => ?_⟩
  have hj:=(List.getElem?_eq_some_iff.1 hu).1
  have hg:=mapM_some_get h j j (by rw [List.getElem?_range (by omega)])
  rw [hg,hu]
 ·
  cases h
section
variable {H : Type} {enc : TypeId × Value → H} {P : Program} {w : World} {base : Nat} {spare : Nat → Bool} {held : Bool}
theorem weights_all {t : TypeId} : ∀ {l : List (DataW H)} {d : DataW H}, d ∈ l → ∀ n ∈ d.weights P t, n ∈ DataW.weightsAll P t l
 | a :: l,d,hd,n,hn => by
  simp only [DataW.weightsAll,List.mem_append]
  rcases List.mem_cons.1 hd with rfl|hd
  ·
   exact .inl hn
  ·
   exact .inr (weights_all hd n hn)
def Opens (enc : TypeId × Value → H) (P : Program) (w : World) (base : Nat) (spare : Nat → Bool) (held : Bool) {α : Type} (kd : Kd α) (Q : α → Prop) (t : TypeId) : Prop :=
 ∀ (n : Nat) (cs : List Value) (x : DataW H × List MemPlace),DataW.trod enc P w base spare held n t cs = some x → (∀ m ∈ x.1.weights P t,m ≤ reachBytes) → ∃ a,kd.K w a cs ∧ Q a
theorem opens_str {t : TypeId} (ht : P.underlying t = some .string) : Opens enc P w base spare held Kd.string (fun s => s.size ≤ 140737488351232) t := by
 intro n cs x h hw
 obtain ⟨s,rfl,rfl,_⟩:=DataW.trod_string ht h
 have h2:=hw s.data.toList.length (by simp [DataW.weights])
 rw [Array.length_toList] at h2
 exact ⟨s,rfl,h2⟩
theorem opens_bool {t : TypeId} (ht : P.underlying t = some .bool) : Opens enc P w base spare held Kd.bool (fun _ => True) t := by
 intro n cs x h hw
 obtain ⟨b,rfl,rfl⟩:=DataW.trod_bool ht h
 exact ⟨b,rfl,trivial⟩
theorem opens_int {k : IntKind} {t : TypeId} (ht : P.underlying t = some (.int k)) : Opens enc P w base spare held (Kd.int k) (fun i => (Lit.int k i).wf = true) t := by
 intro n cs x h hw
 obtain ⟨i,rfl,rfl,hwf⟩:=DataW.trod_int ht h
 exact ⟨i,rfl,hwf⟩
theorem opens_slice {α : Type} {kd : Kd α} {Q : α → Prop} {t e : TypeId} (ht : P.underlying t = some (.slice e)) (hc : P.cellsOf e = kd.sz) (hB : 1 ≤ P.bytesOf e) (ho : Opens enc P w base spare held kd Q e) :
  Opens enc P w base spare held (Kd.slice e kd) (fun l => l.length ≤ 140737488351232 ∧ ∀ x ∈ l,Q x) t:=by
 intro fuel cs d hf hw
 rcases DataW.trod_slice ht hf with ⟨rfl,_⟩|⟨x,len,cap,elems,rest,n,_,rfl,hx,hb,hl,hm,hlen,hel,_,_⟩
 ·
  exact ⟨[],⟨none,0,rfl,Nat.le_refl _,⟨rfl,Nat.zero_le _,fun h => absurd h (Nat.lt_irrefl 0)⟩⟩,Nat.zero_le _,by simp⟩
 ·
  subst hx
  have hlw : len ≤ 140737488351232:=by
   have h1:=hw ((elems.map (·.1)).length * P.bytesOf e + (rest.map (·.1)).length * P.bytesOf e) (by simp [DataW.weights,ht,Nat.add_mul])
   rw [List.length_map,hlen] at h1
   have h2 : len * 1 ≤ len * P.bytesOf e:=Nat.mul_le_mul_left _ hB
   have h3 : reachBytes = 140737488351232:=rfl
   omega
  have each : ∀ i,i < len → ∃ y : α,Q y ∧ ∃ cs : List Value,cs.length = kd.sz ∧ kd.K w y cs ∧ ∀ j u,cs[j]? = some u → w.cell? (x.add (i * kd.sz + j)) = some u:=by
   intro i hi
   have h1:=hel i hi
   have hi2 : i < elems.length:=by omega
   rw [List.getElem?_eq_getElem hi2,hc,Option.bind_eq_some_iff] at h1
   obtain ⟨cs,h2,h3⟩:=h1
   obtain ⟨y,h4,h5⟩:=ho _ _ _ h3 (fun m hm => hw m (by
    simp only [DataW.weights,ht,List.mem_cons,List.mem_append]
    exact .inr (.inl (weights_all (List.mem_map_of_mem (List.getElem_mem hi2)) m hm))))
   obtain ⟨h6,h7⟩:=cells_each h2
   refine ⟨y,h5,cs,h6,h4,fun j z hz => ?_⟩
   have h8:=h7 j z hz
   rw [add_add] at h8
   exact h8
  obtain ⟨ls,hls,hq⟩:=list_each len each
  have hmx : len ≤ 9223372036854775807:=by omega
  refine ⟨ls,⟨some x,cap,by rw [hls],by rw [hls];exact hl,⟨rfl,by rw [hls];exact hmx,fun _ => ⟨x,rfl,fun j p hp => ?_⟩⟩⟩,by rw [hls];exact hlw,fun y hy => ?_⟩
  ·
   obtain ⟨_,cs,h1,h2,h3⟩:=hq j p hp
   exact ⟨cs,h1,h2,fun i u hu => h3 i u hu⟩
  ·
   obtain ⟨i,hi⟩:=List.getElem?_of_mem hy
   exact (hq i y hi).1
def Fields (enc : TypeId × Value → H) (P : Program) (w : World) (base : Nat) (spare : Nat → Bool) (held : Bool) {α : Type} (kd : Kd α) (Q : α → Prop) (fs : List Field) (o : Nat) : Prop :=
 ∀ (n : Nat) (cs : List Value) (xs : List (DataW H × List MemPlace)),cs.length = o + kd.sz → xs.length = fs.length →
  (∀ (i : Nat) (f : Field),fs[i]? = some f → DataW.trod enc P w base spare held n f.type ((cs.drop f.offset).take (P.cellsOf f.type)) = xs[i]?) →
  (∀ (i : Nat) (f : Field) (x : DataW H × List MemPlace),fs[i]? = some f → xs[i]? = some x → ∀ m ∈ x.1.weights P f.type,m ≤ reachBytes) → ∃ a,kd.K w a (cs.drop o) ∧ Q a
theorem fields_one {α : Type} {kd : Kd α} {Q : α → Prop} {f : Field} {o : Nat} (hoff : f.offset = o) (hc : P.cellsOf f.type = kd.sz) (ho : Opens enc P w base spare held kd Q f.type) : Fields enc P w base spare held kd Q [f] o := by
 intro n cs xs hl hx hf hw
 match xs,hx with
 | [y],_ =>
  have h:=hf 0 f rfl
  rw [hoff,hc,List.take_of_length_le (by rw [List.length_drop];omega)] at h
  exact ho _ _ _ h (hw 0 f y rfl rfl)
theorem fields_cons {α β : Type} {k1 : Kd α} {k2 : Kd β} {Q1 : α → Prop} {Q2 : β → Prop} {f : Field} {fs : List Field} {o : Nat} (hoff : f.offset = o) (hc : P.cellsOf f.type = k1.sz) (ho : Opens enc P w base spare held k1 Q1 f.type)
  (h2 : Fields enc P w base spare held k2 Q2 fs (o + k1.sz)) : Fields enc P w base spare held (Kd.pair k1 k2) (fun p => Q1 p.1 ∧ Q2 p.2) (f :: fs) o:=by
 intro n cs xs hl hx hf hw
 have hl' : cs.length = o + (k1.sz + k2.sz):=hl
 match xs,hx with
 | y :: ys,hx =>
  have h:=hf 0 f rfl
  rw [hoff,hc] at h
  obtain ⟨a,ha,qa⟩:=ho _ _ _ h (hw 0 f y rfl rfl)
  obtain ⟨b,hb,qb⟩:=h2 n cs ys (by omega) (by simpa using hx) (fun i g hg => by have:=hf (i + 1) g (by simpa using hg);simpa using this) (fun i g x hg hx => hw (i + 1) g x (by simpa using hg) (by simpa using hx))
  refine ⟨(a,b),⟨(cs.drop o).take k1.sz,cs.drop (o + k1.sz),?_,ha,hb⟩,qa,qb⟩
  rw [← List.drop_drop,List.take_append_drop]
theorem weights_fields : ∀ {fs : List Field} {xs : List (DataW H × List MemPlace)} {i : Nat} {f : Field} {x : DataW H × List MemPlace}, fs[i]? = some f → xs[i]? = some x → ∀ m ∈ x.1.weights P f.type, m ∈ DataW.weightsEach P (fs.map (·.type)) (xs.map (·.1))
 | [],_,i,f,x,hf,_,_,_ => by simp at hf
 | _ :: _,[],i,f,x,_,hx,_,_ => by simp at hx
 | g :: fs,y :: ys,0,f,x,hf,hx,m,hm => by
  simp at hf hx
  subst hf hx
  simp only [List.map_cons,DataW.weightsEach,List.mem_append]
  exact .inl hm
 | g :: fs,y :: ys,i + 1,f,x,hf,hx,m,hm => by
  simp only [List.map_cons,DataW.weightsEach,List.mem_append]
  exact .inr (weights_fields (fs:=fs) (xs:=ys) (i:=i) (by simpa using hf) (by simpa using hx) m hm)
theorem opens_struct {α : Type} {kd : Kd α} {Q : α → Prop} {t : TypeId} {fs : Array Field} (ht : P.underlying t = some (.struct fs)) (hc : P.cellsOf t = kd.sz) (hf : Fields enc P w base spare held kd Q fs.toList 0) : Opens enc P w base spare held kd Q t := by
 intro fuel cs x h hw
 obtain ⟨xs,m,_,rfl,hl,hlen,hi⟩:=DataW.trod_struct ht h
 obtain ⟨a,ha,hq⟩:=hf m cs xs (by omega) (by simpa using hlen) (fun i f hf => hi i f (by simpa using hf)) (fun i f x hf hx n hn => hw n (by
  simp only [DataW.weights,ht]
  exact weights_fields hf hx n hn))
 exact ⟨a,by simpa using ha,hq⟩
theorem opens_iso {α β : Type} {kd : Kd α} {Q : α → Prop} {t : TypeId} {f : β → α} (g : α → β) (hg : ∀ a, f (g a) = a) (ho : Opens enc P w base spare held kd Q t) : Opens enc P w base spare held (Kd.iso kd f) (fun b => Q (f b)) t := by
 intro n cs x h hw
 obtain ⟨a,ha,hq⟩:=ho n cs x h hw
 exact ⟨g a,by show kd.K w (f (g a)) cs;rw [hg];exact ha,by show Q (f (g a));rw [hg];exact hq⟩
theorem opens_mono {α : Type} {kd : Kd α} {Q Q' : α → Prop} {t : TypeId} (ho : Opens enc P w base spare held kd Q t) (h : ∀ a, Q a → Q' a) : Opens enc P w base spare held kd Q' t := by
 intro n cs x hx hw
 obtain ⟨a,ha,hq⟩:=ho n cs x hx hw
 exact ⟨a,ha,h a hq⟩
theorem open_agg {α : Type} {kd : Kd α} {Q : α → Prop} {t : TypeId} {fs : Array Field} {r : Reach} {b0 : Nat} {v : Value} {d : DataW H} {ps : List MemPlace} (ht : P.underlying t = some (.struct fs)) (ho : Opens enc P w base spare held kd Q t)
  (hw : ∀ n ∈ d.weights P t,n ≤ reachBytes) (hval : Value.okWide P w r b0 t v) (hd : DataW.Trod enc P w base spare held t v d ps) : ∃ a cs,v = .agg ⟨cs⟩ ∧ kd.K w a cs ∧ Q a:=by
 obtain ⟨⟨cs⟩,rfl,_⟩:=okWide_struct ht hval
 obtain ⟨fuel,hf⟩:=hd
 obtain ⟨a,ha,hq⟩:=ho _ _ _ hf hw
 exact ⟨a,cs,rfl,ha,hq⟩
end
end Op
end Go.Proofs.Ytfplcohjnlbfjaa.Hand
end

section
namespace Go.Proofs.Ytfplcohjnlbfjaa.Hand
open Go.ChangeShapes Go.WideShapes Go.ChangeAt Go.Joins Go.Deep Go.RowKit Go.Proofs.YtfplcohjnlbfjaaW.PrintWords Go.Proofs.YtfplcohjnlbfjaaW.PrintLast Go.Proofs.YtfplcohjnlbfjaaW.PrintMore
namespace Op
section
variable {H : Type} {enc : TypeId × Value → H} {w : World} {base : Nat} {spare : Nat → Bool} {held : Bool}
def QType (x : S97) : Prop := x.f1.size ≤ 140737488351232
def QField (x : S103) : Prop := x.f0.size ≤ 140737488351232 ∧ QType x.f1
def QInstr (x : S74) : Prop := (Lit.int .i64 x.f0).wf = true ∧ (Lit.int .i64 x.f1).wf = true ∧ (Lit.int .i64 x.f2).wf = true ∧ (Lit.int .i64 x.f3).wf = true ∧ (Lit.int .i64 x.f4).wf = true ∧ x.f5.size ≤ 140737488351232 ∧ x.f6.size ≤ 140737488351232 ∧ x.f7.size ≤ 140737488351232 ∧ x.f8.length ≤ 140737488351232 ∧ ∀ i ∈ x.f8, (Lit.int .i64 i).wf = true
def QMethod (x : S37) : Prop := x.f0.size ≤ 140737488351232 ∧ x.f1.size ≤ 140737488351232 ∧ (Lit.int .i64 x.f4).wf = true ∧ x.f5.length ≤ 140737488351232 ∧ ∀ i ∈ x.f5, QInstr i
def QClass (x : S33) : Prop := x.f0.size ≤ 140737488351232 ∧ x.f1.size ≤ 140737488351232 ∧ (x.f4.length ≤ 140737488351232 ∧ ∀ s ∈ x.f4, s.size ≤ 140737488351232) ∧ (x.f5.length ≤ 140737488351232 ∧ ∀ s ∈ x.f5, QField s) ∧ (x.f6.length ≤ 140737488351232 ∧ ∀ s ∈ x.f6, QMethod s)
theorem opens_type : Opens enc Try.prog w base spare held k97 QType 97 :=
 opens_mono (opens_iso (fun p => ⟨p.1,p.2⟩) (fun _ => rfl) (opens_struct Try.underlying97 (by kernel_rfl) (fields_cons rfl (by kernel_rfl) (opens_int Try.underlying95) (fields_one rfl (by kernel_rfl) (opens_str Try.underlying9))))) (fun a h => h.2)
theorem opens_field : Opens enc Try.prog w base spare held k103 QField 103 :=
 opens_mono (opens_iso (fun p => ⟨p.1,p.2.1,p.2.2⟩) (fun _ => rfl) (opens_struct Try.underlying103 (by kernel_rfl) (fields_cons rfl (by kernel_rfl) (opens_str Try.underlying9) (fields_cons rfl (by kernel_rfl) opens_type (fields_one rfl (by kernel_rfl) (opens_bool Try.underlying4)))))) (fun a h => ⟨h.1,h.2.1⟩)
theorem opens_instr : Opens enc Try.prog w base spare held k74 QInstr 74 :=
 opens_mono (opens_iso (fun p => ⟨p.1,p.2.1,p.2.2.1,p.2.2.2.1,p.2.2.2.2.1,p.2.2.2.2.2.1,p.2.2.2.2.2.2.1,p.2.2.2.2.2.2.2.1,p.2.2.2.2.2.2.2.2⟩) (fun _ => rfl) (opens_struct Try.underlying74 (by kernel_rfl)
  (fields_cons rfl (by kernel_rfl) (opens_int Try.underlying72) (fields_cons rfl (by kernel_rfl) (opens_int Try.underlying3) (fields_cons rfl (by kernel_rfl) (opens_int Try.underlying3) (fields_cons rfl (by kernel_rfl) (opens_int Try.underlying3) (fields_cons rfl (by kernel_rfl) (opens_int Try.underlying2)
   (fields_cons rfl (by kernel_rfl) (opens_str Try.underlying9) (fields_cons rfl (by kernel_rfl) (opens_str Try.underlying9) (fields_cons rfl (by kernel_rfl) (opens_str Try.underlying9) (fields_one rfl (by kernel_rfl) (opens_slice Try.underlying58 (by kernel_rfl) (of_decide_eq_true (by kernel_rfl)) (opens_int Try.underlying3))))))))))))) (fun a h => ⟨h.1,h.2.1,h.2.2.1,h.2.2.2.1,h.2.2.2.2.1,h.2.2.2.2.2.1,h.2.2.2.2.2.2.1,h.2.2.2.2.2.2.2.1,h.2.2.2.2.2.2.2.2.1,h.2.2.2.2.2.2.2.2.2⟩)
theorem opens_method : Opens enc Try.prog w base spare held k37 QMethod 37 :=
 opens_mono (opens_iso (fun p => ⟨p.1,p.2.1,p.2.2.1,p.2.2.2.1,p.2.2.2.2.1,p.2.2.2.2.2⟩) (fun _ => rfl) (opens_struct Try.underlying37 (by kernel_rfl)
  (fields_cons rfl (by kernel_rfl) (opens_str Try.underlying9) (fields_cons rfl (by kernel_rfl) (opens_str Try.underlying9) (fields_cons rfl (by kernel_rfl) (opens_bool Try.underlying4) (fields_cons rfl (by kernel_rfl) (opens_bool Try.underlying4) (fields_cons rfl (by kernel_rfl) (opens_int Try.underlying3)
   (fields_one rfl (by kernel_rfl) (opens_slice Try.underlying35 (by kernel_rfl) (of_decide_eq_true (by kernel_rfl)) opens_instr))))))))) (fun a h => ⟨h.1,h.2.1,h.2.2.2.2.1,h.2.2.2.2.2.1,h.2.2.2.2.2.2⟩)
theorem opens_class : Opens enc Try.prog w base spare held k33 QClass 33 :=
 opens_mono (opens_iso (fun p => ⟨p.1,p.2.1,p.2.2.1,p.2.2.2.1,p.2.2.2.2.1,p.2.2.2.2.2.1,p.2.2.2.2.2.2⟩) (fun _ => rfl) (opens_struct Try.underlying33 (by kernel_rfl)
  (fields_cons rfl (by kernel_rfl) (opens_str Try.underlying9) (fields_cons rfl (by kernel_rfl) (opens_str Try.underlying9) (fields_cons rfl (by kernel_rfl) (opens_bool Try.underlying4) (fields_cons rfl (by kernel_rfl) (opens_bool Try.underlying4) (fields_cons rfl (by kernel_rfl) (opens_slice Try.underlying23 (by kernel_rfl) (of_decide_eq_true (by kernel_rfl)) (opens_str Try.underlying9))
   (fields_cons rfl (by kernel_rfl) (opens_slice Try.underlying30 (by kernel_rfl) (of_decide_eq_true (by kernel_rfl)) opens_field) (fields_one rfl (by kernel_rfl) (opens_slice Try.underlying31 (by kernel_rfl) (of_decide_eq_true (by kernel_rfl)) opens_method)))))))))) (fun a h => ⟨h.1,h.2.1,h.2.2.2.2.1,h.2.2.2.2.2.1,h.2.2.2.2.2.2⟩)
theorem opens_mref : Opens enc Try.prog w base spare held (Kd.pair Kd.string (Kd.pair Kd.string Kd.string)) (fun p => p.1.size ≤ 140737488351232 ∧ p.2.1.size ≤ 140737488351232 ∧ p.2.2.size ≤ 140737488351232) 25 :=
 opens_mono (opens_struct Try.underlying25 (by kernel_rfl) (fields_cons rfl (by kernel_rfl) (opens_str Try.underlying9) (fields_cons rfl (by kernel_rfl) (opens_str Try.underlying9) (fields_one rfl (by kernel_rfl) (opens_str Try.underlying9))))) (fun a h => h)
def QProg (p : List S33 × List ByteArray × ByteArray × ByteArray × ByteArray) : Prop := (p.1.length ≤ 140737488351232 ∧ ∀ x ∈ p.1, QClass x) ∧ (p.2.1.length ≤ 140737488351232 ∧ ∀ x ∈ p.2.1, x.size ≤ 140737488351232) ∧ (p.2.2.1.size ≤ 140737488351232 ∧ p.2.2.2.1.size ≤ 140737488351232 ∧ p.2.2.2.2.size ≤ 140737488351232)
theorem opens_program : Opens enc Try.prog w base spare held (Kd.pair (Kd.slice 33 k33) (Kd.pair (Kd.slice 9 Kd.string) (Kd.pair Kd.string (Kd.pair Kd.string Kd.string))))
  QProg 27 :=
 opens_mono (opens_struct Try.underlying27 (by kernel_rfl) (fields_cons rfl (by kernel_rfl) (opens_slice Try.underlying22 (by kernel_rfl) (of_decide_eq_true (by kernel_rfl)) opens_class)
  (fields_cons rfl (by kernel_rfl) (opens_slice Try.underlying23 (by kernel_rfl) (of_decide_eq_true (by kernel_rfl)) (opens_str Try.underlying9)) (fields_one rfl (by kernel_rfl) opens_mref)))) (fun a h => h)
theorem open_program {r : Reach} {b0 : Nat} {v : Value} {d : DataW H} {ps : List MemPlace} (hw : ∀ n ∈ d.weights Try.prog 27, n ≤ reachBytes) (hval : Value.okWide Try.prog w r b0 27 v) (hd : DataW.Trod enc Try.prog w base spare held 27 v d ps) :
  ∃ (A0 : Option Addr) (c0 : Nat) (l0 : List S33) (A1 : Option Addr) (c1 : Nat) (l1 : List ByteArray) (a2 a3 a4 : ByteArray),v = .agg (pG A0 l0 c0 A1 l1 c1 a2 a3 a4) ∧
   Kd.C k33 w A0 l0.length l0 ∧ l0.length ≤ c0 ∧ Kd.C Kd.string w A1 l1.length l1 ∧ l1.length ≤ c1 ∧ l0.length ≤ 140737488351232 ∧ (∀ x ∈ l0,QClass x) ∧ l1.length ≤ 140737488351232 ∧ (∀ x ∈ l1,x.size ≤ 140737488351232) ∧ a2.size ≤ 140737488351232 ∧ a3.size ≤ 140737488351232 ∧ a4.size ≤ 140737488351232:=by
 obtain ⟨⟨l0,l1,a2,a3,a4⟩,cs,rfl,hK,hq⟩:=open_agg Try.underlying27 opens_program hw hval hd
 unfold QProg at hq
 obtain ⟨⟨q0,q1⟩,⟨q2,q3⟩,q4,q5,q6⟩:=hq
 obtain ⟨_,_,rfl,⟨A0,c0,rfl,m0,h0⟩,_,_,rfl,⟨A1,c1,rfl,m1,h1⟩,_,_,rfl,rfl,_,_,rfl,rfl,rfl⟩:=hK
 exact ⟨A0,c0,l0,A1,c1,l1,a2,a3,a4,rfl,h0,m0,h1,m1,q0,q1,q2,q3,q4,q5,q6⟩
end
end Op
section
variable {H : Type} {enc : TypeId × Value → H} {P : Program} {w : World} {base : Nat} {spare : Nat → Bool} {held : Bool}
theorem wf_u8 {i : Int} (h : (Lit.int .u8 i).wf = true) : 0 ≤ i ∧ i ≤ 255 := by
 have h1 : IntKind.u8.min = 0:=rfl
 have h2 : IntKind.u8.max = 255:=rfl
 simp [Lit.wf,h1,h2] at h
 exact h
end
end Go.Proofs.Ytfplcohjnlbfjaa.Hand
end
