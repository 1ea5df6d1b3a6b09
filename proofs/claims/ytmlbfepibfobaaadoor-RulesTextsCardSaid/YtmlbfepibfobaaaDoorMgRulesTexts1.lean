import Derived.Test.YtmlbfepibfobaaaDoorRows
import Derived.ProofKit
import Derived.JoinedCond
import Derived.KernelRfl
import Derived.Shelf.Strings.Builder1
import Derived.Shelf.Strings.Builder2
import Derived.Shelf.Strings.OnBuilder
import Derived.Shelf.Strings.BuilderF
import Derived.Shelf.Strings.Search1
import Derived.Shelf.Strings.Search2
import Derived.Shelf.Strings.Search3
import Derived.Shelf.Strings.Cut
import Derived.Shelf.Strings.Count
import Derived.Shelf.LaysM
import Derived.Shelf.Strings.Shaped
import Derived.Shelf.Strings.LastIndex
import Derived.Shelf.GgClosure.StringsIndexFunc
import Derived.Ground.GgwProg
import Derived.Shelf.GgClosure.StringsIndexFuncTop
import Derived.Shelf.GgClosure.StringsRunes
import Derived.Shelf.Strings.Split
import Derived.Shelf.Unicode.Decode
import Derived.Shelf.Strings.RuneCount
import Derived.Shelf.Strings.Explode
import Derived.Shelf.Unicode.DecodeSlow
import Derived.Shelf.Unicode.DecodeAny
import Derived.Shelf.Strings.FuncGrows
import Derived.Ground.PaProg
import Derived.Shelf.Path.Small
import Derived.Test.YtmlbfepibfobaaaDoorProg
import Derived.Below
import Derived.Deep.Draws
import Derived.Deep.AppendLies
import Derived.Maps.AppendAt
import Derived.OwnWalk
import Derived.Laws.BytesArg
import Derived.Laws.MakeOwn
import Derived.Laws.OwnMore
import Derived.Deep.OwnRows
import Derived.Tactics
import Derived.Lib.ConvBytes
import Derived.Laws.Slices
import Derived.WalkKit
import Derived.RowKit3
import Derived.Deep.LoopGhost
import Derived.Deep.QuietTactic
import Derived.BigQuiet
import Derived.WideLaws
import Derived.Deep.DeepCutAuto
import Derived.Deep.CutBlock
import Derived.Deep.RegionHeld3
import Derived.Laws.Rows
import Derived.Lib.AppendStr
import Derived.ArgAppend
import Derived.Laws.IdiomCopy
import Derived.OrdersHeld
import Derived.Laws.BitsLemmas
import Derived.RowKit
import Derived.Lib.Hide
import Derived.Laws.CopyOwn
import Derived.Test.YtmlbfepibfobaaaDoorMgRulesTexts0
import Derived.Laws.Strings
import Derived.Laws.RangeString
import Derived.Laws.RangeAny
import Derived.RangeFuncBound
import Derived.RangeFuncNested
import Derived.RangeFuncCalls
import Derived.RangeFuncLeaves
import Derived.Shelf.Abstract
import Derived.Shelf.RegionOpen
import Derived.OwnWalkIn
import Derived.TacticsInMore
import Derived.LoopNIn
import Derived.LoopIn
import Derived.RangeFuncBox
import Derived.Maps.OwnIn
import Derived.BigRegionIn
import Derived.IntWalk
section
namespace Go.Proofs.YtmlbfepibfobaaaDoor.Hand
theorem seat_mayEnter : Tryd.prog.mayEnter = true := by kernel_rfl
theorem seat_lifts : Tryd.prog.liftsFinal = false := by kernel_rfl
theorem seat_make : Tryd.prog.make = some .cut := by kernel_rfl
end Go.Proofs.YtmlbfepibfobaaaDoor.Hand
end

section
namespace Go.Proofs
open Go.Shelf
def Tryd.lays169_ren : Go.Shelf.Ren := ⟨fun | 169 => 95 | n => n, fun | 70 => 100 | 9 => 9 | 0 => 0 | 72 => 102 | 37 => 22 | 127 => 138 | 3 => 3 | 5 => 5 | n => n, fun | n => n⟩
theorem Tryd.lays169 : Go.Proofs.Lays.n169 Tryd.prog Tryd.lays169_ren := {
  mixed := by kernel_rfl
  f169 := Tryd.func95.trans (congrArg some (by kernel_rfl))
  t0 := Tryd.underlying0
  a0 := Tryd.isAgg0
  z0 := Tryd.sizeOf0
  v0 := Tryd.zeroValue0
  t3 := Tryd.underlying3
  a3 := Tryd.isAgg3
  z3 := Tryd.sizeOf3
  v3 := Tryd.zeroValue3
  t9 := Tryd.underlying9
  a9 := Tryd.isAgg9
  z9 := Tryd.sizeOf9
  v9 := Tryd.zeroValue9
  t37 := Tryd.underlying22
  a37 := Tryd.isAgg22
  z37 := Tryd.sizeOf22
  v37 := Tryd.zeroValue22
  t70 := Tryd.underlying100
  a70 := Tryd.isAgg100
  z70 := Tryd.sizeOf100
  v70 := Tryd.zeroValue100
  t72 := Tryd.underlying102
  a72 := Tryd.isAgg102
  z72 := Tryd.sizeOf102
  v72 := Tryd.zeroValue102
  t127 := Tryd.underlying138
  a127 := Tryd.isAgg138
  z127 := Tryd.sizeOf138
  v127 := Tryd.zeroValue138 }
theorem Tryd.Builder_Extra_169 : Builder.Extra Tryd.prog Tryd.lays169_ren := {
  sizeBuilder := by kernel_rfl
  liesBuilder := by kernel_rfl
  t5 := Tryd.underlying5
  a5 := Tryd.isAgg5
  z5 := Tryd.sizeOf5
  v5 := Tryd.zeroValue5
  infoByte := by kernel_rfl
  cellsByte := by kernel_rfl
  sizeByte := by kernel_rfl
  neB5 := by decide }
open Go.RowKit in
theorem Tryd.Builder_String_any (B b : Nat) (l : List UInt8) (w : World) (h : Lib.IsBuilder 102 5 B b (Lib.byteCells l) w) (hBw : B ≤ w.heap.size) :
    Calls Tryd.prog 95 #[.pointer (some ⟨b, 0, none⟩)] w fun e w' => e = .returned (.string ⟨l.toArray⟩) ∧ Below B w w' := Any.Builder_String_any Tryd.lays169 Tryd.Builder_Extra_169 B b l w h hBw
def Tryd.lays156_ren : Go.Shelf.Ren := ⟨fun | 156 => 104 | 165 => 133 | 166 => 93 | 169 => 95 | 240 => 122 | 241 => 147 | 276 => 140 | 277 => 154 | n => n, fun | 31 => 57 | 9 => 9 | 3 => 3 | 4 => 4 | 0 => 0 | 20 => 20 | 72 => 102 | 76 => 105 | 70 => 100 | 37 => 22 | 75 => 104 | 127 => 138 | 164 => 154 | 5 => 5 | 80 => 40 | n => n, fun | n => n⟩
theorem Tryd.lays156 : Go.Proofs.Lays.n156 Tryd.prog Tryd.lays156_ren := {
  mixed := by kernel_rfl
  f156 := Tryd.func104.trans (congrArg some (by kernel_rfl))
  f165 := Tryd.func133.trans (congrArg some (by kernel_rfl))
  f166 := Tryd.func93.trans (congrArg some (by kernel_rfl))
  f169 := Tryd.func95.trans (congrArg some (by kernel_rfl))
  f240 := Tryd.func122.trans (congrArg some (by kernel_rfl))
  f241 := Tryd.func147.trans (congrArg some (by kernel_rfl))
  f276 := Tryd.func140.trans (congrArg some (by kernel_rfl))
  f277 := Tryd.func154.trans (congrArg some (by kernel_rfl))
  t0 := Tryd.underlying0
  a0 := Tryd.isAgg0
  z0 := Tryd.sizeOf0
  v0 := Tryd.zeroValue0
  t3 := Tryd.underlying3
  a3 := Tryd.isAgg3
  z3 := Tryd.sizeOf3
  v3 := Tryd.zeroValue3
  t4 := Tryd.underlying4
  a4 := Tryd.isAgg4
  z4 := Tryd.sizeOf4
  v4 := Tryd.zeroValue4
  t9 := Tryd.underlying9
  a9 := Tryd.isAgg9
  z9 := Tryd.sizeOf9
  v9 := Tryd.zeroValue9
  t20 := Tryd.underlying20
  a20 := Tryd.isAgg20
  z20 := Tryd.sizeOf20
  v20 := Tryd.zeroValue20
  t31 := Tryd.underlying57
  a31 := Tryd.isAgg57
  z31 := Tryd.sizeOf57
  v31 := Tryd.zeroValue57
  t37 := Tryd.underlying22
  a37 := Tryd.isAgg22
  z37 := Tryd.sizeOf22
  v37 := Tryd.zeroValue22
  t70 := Tryd.underlying100
  a70 := Tryd.isAgg100
  z70 := Tryd.sizeOf100
  v70 := Tryd.zeroValue100
  t72 := Tryd.underlying102
  a72 := Tryd.isAgg102
  z72 := Tryd.sizeOf102
  v72 := Tryd.zeroValue102
  t75 := Tryd.underlying104
  a75 := Tryd.isAgg104
  z75 := Tryd.sizeOf104
  v75 := Tryd.zeroValue104
  t76 := Tryd.underlying105
  a76 := Tryd.isAgg105
  z76 := Tryd.sizeOf105
  v76 := Tryd.zeroValue105
  t127 := Tryd.underlying138
  a127 := Tryd.isAgg138
  z127 := Tryd.sizeOf138
  v127 := Tryd.zeroValue138
  t164 := Tryd.underlying154
  a164 := Tryd.isAgg154
  z164 := Tryd.sizeOf154
  v164 := Tryd.zeroValue154 }
theorem Tryd.Builder_Extra_156 : Builder.Extra Tryd.prog Tryd.lays156_ren := {
  sizeBuilder := by kernel_rfl
  liesBuilder := by kernel_rfl
  t5 := Tryd.underlying5
  a5 := Tryd.isAgg5
  z5 := Tryd.sizeOf5
  v5 := Tryd.zeroValue5
  infoByte := by kernel_rfl
  cellsByte := by kernel_rfl
  sizeByte := by kernel_rfl
  neB5 := by decide }
open Go.RowKit in
theorem Tryd.strings_Join_none (a : Option Addr) (c : Nat) (sep : ByteArray) (w : World) :
    Calls Tryd.prog 104 #[.slice a 0 c, .string sep] w fun e w' => e = .returned (.string ⟨#[]⟩) ∧ w' = w := Any.strings_Join_none Tryd.lays156 Tryd.Builder_Extra_156 a c sep w
open Go.RowKit in
theorem Tryd.strings_Join (bk o c : Nat) (xs : List ByteArray) (sep : ByteArray) (w : World) (hcells : ∀ (j : Nat) x, xs[j]? = some x → w.cell? ⟨bk, o + j, none⟩ = some (.string x)) (hbk : bk < w.heap.size) (hN : xs.length ≤ 140737488355328) (hcap : xs.length ≤ c) (hlen : (Lib.join (xs.map (·.data.toList)) sep.data.toList).length ≤ 140737488355328) :
    Calls Tryd.prog 104 #[.slice (some ⟨bk, o, none⟩) xs.length c, .string sep] w fun e w' => e = .returned (.string ⟨(Lib.join (xs.map (·.data.toList)) sep.data.toList).toArray⟩) ∧ Below w.heap.size w w' := Any.strings_Join Tryd.lays156 Tryd.Builder_Extra_156 bk o c xs sep w hcells hbk hN hcap hlen
def Tryd.lays145_ren : Go.Shelf.Ren := ⟨fun | 145 => 129 | 220 => 142 | 219 => 150 | 217 => 155 | 225 => 156 | 224 => 157 | 267 => 158 | 266 => 160 | 314 => 161 | n => n, fun | 9 => 9 | 4 => 4 | 59 => 108 | 3 => 3 | 5 => 5 | 46 => 124 | 146 => 164 | 51 => 127 | n => n, fun | 1 => 0 | n => n⟩
theorem Tryd.lays145 : Go.Proofs.Lays.n145 Tryd.prog Tryd.lays145_ren := {
  mixed := by kernel_rfl
  f145 := Tryd.func129.trans (congrArg some (by kernel_rfl))
  f217 := Tryd.func155.trans (congrArg some (by kernel_rfl))
  f219 := Tryd.func150.trans (congrArg some (by kernel_rfl))
  f220 := Tryd.func142.trans (congrArg some (by kernel_rfl))
  f224 := Tryd.func157.trans (congrArg some (by kernel_rfl))
  f225 := Tryd.func156.trans (congrArg some (by kernel_rfl))
  f266 := Tryd.func160.trans (congrArg some (by kernel_rfl))
  f267 := Tryd.func158.trans (congrArg some (by kernel_rfl))
  f314 := Tryd.func161.trans (congrArg some (by kernel_rfl))
  t3 := Tryd.underlying3
  a3 := Tryd.isAgg3
  z3 := Tryd.sizeOf3
  v3 := Tryd.zeroValue3
  t4 := Tryd.underlying4
  a4 := Tryd.isAgg4
  z4 := Tryd.sizeOf4
  v4 := Tryd.zeroValue4
  t5 := Tryd.underlying5
  a5 := Tryd.isAgg5
  z5 := Tryd.sizeOf5
  v5 := Tryd.zeroValue5
  t9 := Tryd.underlying9
  a9 := Tryd.isAgg9
  z9 := Tryd.sizeOf9
  v9 := Tryd.zeroValue9
  t46 := Tryd.underlying124
  a46 := Tryd.isAgg124
  z46 := Tryd.sizeOf124
  v46 := Tryd.zeroValue124
  t51 := Tryd.underlying127
  a51 := Tryd.isAgg127
  z51 := Tryd.sizeOf127
  v51 := Tryd.zeroValue127
  t59 := Tryd.underlying108
  a59 := Tryd.isAgg108
  z59 := Tryd.sizeOf108
  v59 := Tryd.zeroValue108
  t146 := Tryd.underlying164
  a146 := Tryd.isAgg164
  z146 := Tryd.sizeOf164
  v146 := Tryd.zeroValue164
  g1 := by kernel_rfl }
open Go.RowKit Go.Lib in
theorem Tryd.strings_Cut (s sep : ByteArray) (m : Int) (w : World) (hs : s.size < 4294967281) (hm : w.cell? ⟨0, 0, none⟩ = some (.int .i64 m)) :
    Calls Tryd.prog 129 #[.string s, .string sep] w fun e w' => e = .returned (.tuple #[.string ⟨(Lib.cut s.data.toList sep.data.toList).1.toArray⟩, .string ⟨(Lib.cut s.data.toList sep.data.toList).2.1.toArray⟩, .bool (Lib.cut s.data.toList sep.data.toList).2.2]) ∧ ∃ n, w' = w.drewN n := Any.strings_Cut Tryd.lays145 s sep m w hs hm
def Tryd.laysM145_ren : Go.Shelf.Ren := ⟨fun | 145 => 129 | 220 => 142 | 219 => 150 | 217 => 155 | 225 => 156 | 224 => 157 | 267 => 158 | 266 => 160 | 314 => 161 | n => n, fun | 9 => 9 | 4 => 4 | 59 => 108 | 3 => 3 | 5 => 5 | 46 => 124 | 146 => 164 | 51 => 127 | n => n, fun | 1 => 0 | n => n⟩
theorem Tryd.laysM145 : Go.Proofs.LaysM.n145 Tryd.prog Tryd.laysM145_ren := {
  mixed := by kernel_rfl
  f145 := Tryd.func129.trans (congrArg some (by kernel_rfl))
  f217 := Tryd.func155.trans (congrArg some (by kernel_rfl))
  f219 := Tryd.func150.trans (congrArg some (by kernel_rfl))
  f220 := Tryd.func142.trans (congrArg some (by kernel_rfl))
  f224 := Tryd.func157.trans (congrArg some (by kernel_rfl))
  f225 := Tryd.func156.trans (congrArg some (by kernel_rfl))
  f266 := Tryd.func160.trans (congrArg some (by kernel_rfl))
  f267 := Tryd.func158.trans (congrArg some (by kernel_rfl))
  f314 := Tryd.func161.trans (congrArg some (by kernel_rfl))
  t3 := Tryd.underlying3
  a3 := Tryd.isAgg3
  z3 := Tryd.sizeOf3
  v3 := Tryd.zeroValue3
  t4 := Tryd.underlying4
  a4 := Tryd.isAgg4
  z4 := Tryd.sizeOf4
  v4 := Tryd.zeroValue4
  t5 := Tryd.underlying5
  a5 := Tryd.isAgg5
  z5 := Tryd.sizeOf5
  v5 := Tryd.zeroValue5
  t9 := Tryd.underlying9
  a9 := Tryd.isAgg9
  z9 := Tryd.sizeOf9
  v9 := Tryd.zeroValue9
  t46 := Tryd.underlying124
  a46 := Tryd.isAgg124
  z46 := Tryd.sizeOf124
  v46 := Tryd.zeroValue124
  t51 := Tryd.underlying127
  a51 := Tryd.isAgg127
  z51 := Tryd.sizeOf127
  v51 := Tryd.zeroValue127
  t59 := Tryd.underlying108
  a59 := Tryd.isAgg108
  z59 := Tryd.sizeOf108
  v59 := Tryd.zeroValue108
  t146 := Tryd.underlying164
  a146 := Tryd.isAgg164
  z146 := Tryd.sizeOf164
  v146 := Tryd.zeroValue164
  g1 := by kernel_rfl
  i3 := by kernel_rfl
  i4 := by kernel_rfl
  i5 := by kernel_rfl
  i9 := by kernel_rfl
  i46 := by kernel_rfl
  i51 := by kernel_rfl
  i59 := by kernel_rfl
  i146 := by kernel_rfl
  m1 := by kernel_rfl
  s1_3 := fun w h => Go.Proofs.cell_of_shapedOpen_int (zero := #[.int .i64 0]) (t := 3) h (of_decide_eq_true (by kernel_rfl)) (by kernel_rfl) rfl (by kernel_rfl) (by kernel_rfl) Tryd.underlying3 }
def Tryd.laysGw15_ren : Go.Shelf.Ren := ⟨fun | 15 => 130 | 20 => 143 | n => n, fun | 9 => 9 | 23 => 146 | 3 => 3 | 4 => 4 | 0 => 0 | 21 => 21 | n => n, fun | n => n⟩
theorem Tryd.laysGw15 : Go.Proofs.LaysGw.n15 Tryd.prog Tryd.laysGw15_ren := {
  mixed := by kernel_rfl
  f15 := Tryd.func130.trans (congrArg some (by kernel_rfl))
  f20 := Tryd.func143.trans (congrArg some (by kernel_rfl))
  t0 := Tryd.underlying0
  a0 := Tryd.isAgg0
  z0 := Tryd.sizeOf0
  v0 := Tryd.zeroValue0
  i0 := by kernel_rfl
  t3 := Tryd.underlying3
  a3 := Tryd.isAgg3
  z3 := Tryd.sizeOf3
  v3 := Tryd.zeroValue3
  i3 := by kernel_rfl
  t4 := Tryd.underlying4
  a4 := Tryd.isAgg4
  z4 := Tryd.sizeOf4
  v4 := Tryd.zeroValue4
  i4 := by kernel_rfl
  t9 := Tryd.underlying9
  a9 := Tryd.isAgg9
  z9 := Tryd.sizeOf9
  v9 := Tryd.zeroValue9
  i9 := by kernel_rfl
  t21 := Tryd.underlying21
  a21 := Tryd.isAgg21
  z21 := Tryd.sizeOf21
  v21 := Tryd.zeroValue21
  i21 := by kernel_rfl
  t23 := Tryd.underlying146
  a23 := Tryd.isAgg146
  z23 := Tryd.sizeOf146
  v23 := Tryd.zeroValue146
  i23 := by kernel_rfl }
open Go.RowKit Go.Lib in
theorem Tryd.strings_IndexFunc (g : Nat) (lb : Array Value) (eg : ∀ args w, (callFunc g args).run Tryd.prog w = .ok (.enter g args) w) (p : Nat → Bool) (s : ByteArray) (w : World) (hp : PredAt Tryd.prog g lb encR p w) :
    Calls Tryd.prog 130 #[.string s, .func (.func g) #[] lb] w fun e w' => e = .returned (.int .i64 (Lib.idxFunc p true s)) ∧ Below w.heap.size w w' := Any.strings_IndexFunc Tryd.laysGw15 g lb eg p s w hp
def Tryd.lays146_ren : Go.Shelf.Ren := ⟨fun | 146 => 103 | 221 => 132 | 268 => 144 | 138 => 145 | 143 => 146 | 195 => 151 | 197 => 152 | 218 => 153 | 219 => 150 | 260 => 159 | 217 => 155 | 225 => 156 | 224 => 157 | 267 => 158 | 266 => 160 | 314 => 161 | n => n, fun | 9 => 9 | 31 => 57 | 3 => 3 | 4 => 4 | 0 => 0 | 105 => 161 | 21 => 21 | 5 => 5 | 46 => 124 | 119 => 166 | 139 => 169 | 138 => 168 | 146 => 164 | 51 => 127 | n => n, fun | 1 => 0 | 3 => 2 | 4 => 3 | n => n⟩
theorem Tryd.lays146 : Go.Proofs.Lays.n146 Tryd.prog Tryd.lays146_ren := {
  mixed := by kernel_rfl
  f138 := Tryd.func145.trans (congrArg some (by kernel_rfl))
  f143 := Tryd.func146.trans (congrArg some (by kernel_rfl))
  f146 := Tryd.func103.trans (congrArg some (by kernel_rfl))
  f195 := Tryd.func151.trans (congrArg some (by kernel_rfl))
  f197 := Tryd.func152.trans (congrArg some (by kernel_rfl))
  f217 := Tryd.func155.trans (congrArg some (by kernel_rfl))
  f218 := Tryd.func153.trans (congrArg some (by kernel_rfl))
  f219 := Tryd.func150.trans (congrArg some (by kernel_rfl))
  f221 := Tryd.func132.trans (congrArg some (by kernel_rfl))
  f224 := Tryd.func157.trans (congrArg some (by kernel_rfl))
  f225 := Tryd.func156.trans (congrArg some (by kernel_rfl))
  f260 := Tryd.func159.trans (congrArg some (by kernel_rfl))
  f266 := Tryd.func160.trans (congrArg some (by kernel_rfl))
  f267 := Tryd.func158.trans (congrArg some (by kernel_rfl))
  f268 := Tryd.func144.trans (congrArg some (by kernel_rfl))
  f314 := Tryd.func161.trans (congrArg some (by kernel_rfl))
  t0 := Tryd.underlying0
  a0 := Tryd.isAgg0
  z0 := Tryd.sizeOf0
  v0 := Tryd.zeroValue0
  t3 := Tryd.underlying3
  a3 := Tryd.isAgg3
  z3 := Tryd.sizeOf3
  v3 := Tryd.zeroValue3
  t4 := Tryd.underlying4
  a4 := Tryd.isAgg4
  z4 := Tryd.sizeOf4
  v4 := Tryd.zeroValue4
  t5 := Tryd.underlying5
  a5 := Tryd.isAgg5
  z5 := Tryd.sizeOf5
  v5 := Tryd.zeroValue5
  t9 := Tryd.underlying9
  a9 := Tryd.isAgg9
  z9 := Tryd.sizeOf9
  v9 := Tryd.zeroValue9
  t21 := Tryd.underlying21
  a21 := Tryd.isAgg21
  z21 := Tryd.sizeOf21
  v21 := Tryd.zeroValue21
  t31 := Tryd.underlying57
  a31 := Tryd.isAgg57
  z31 := Tryd.sizeOf57
  v31 := Tryd.zeroValue57
  t46 := Tryd.underlying124
  a46 := Tryd.isAgg124
  z46 := Tryd.sizeOf124
  v46 := Tryd.zeroValue124
  t51 := Tryd.underlying127
  a51 := Tryd.isAgg127
  z51 := Tryd.sizeOf127
  v51 := Tryd.zeroValue127
  t105 := Tryd.underlying161
  a105 := Tryd.isAgg161
  z105 := Tryd.sizeOf161
  v105 := Tryd.zeroValue161
  t119 := Tryd.underlying166
  a119 := Tryd.isAgg166
  z119 := Tryd.sizeOf166
  t138 := Tryd.underlying168
  a138 := Tryd.isAgg168
  z138 := Tryd.sizeOf168
  v138 := Tryd.zeroValue168
  t139 := Tryd.underlying169
  a139 := Tryd.isAgg169
  z139 := Tryd.sizeOf169
  v139 := Tryd.zeroValue169
  t146 := Tryd.underlying164
  a146 := Tryd.isAgg164
  z146 := Tryd.sizeOf164
  v146 := Tryd.zeroValue164
  g1 := by kernel_rfl
  g3 := by kernel_rfl
  g4 := by kernel_rfl }
open Go.RowKit Go.Lib in
theorem Tryd.strings_Split (s sep : ByteArray) (m : Int) (w : World) (hs : s.size < 4294967281) (hm : w.cell? ⟨0, 0, none⟩ = some (.int .i64 m)) (h1 : 1 ≤ sep.size) :
    Calls Tryd.prog 103 #[.string s, .string sep] w fun e w' =>
      e = .returned (.slice (some ⟨w.heap.size, 0, none⟩) (Lib.countB s sep + 1) (Lib.countB s sep + 1)) ∧ w' = w.alloc (.cells ((Lib.splitB sep 0 (Lib.countB s sep) s).map Value.string).toArray 9) := Any.strings_Split Tryd.lays146 (by kernel_rfl) s sep m w hs hm h1
end Go.Proofs
end

section
namespace Go.Proofs.YtmlbfepibfobaaaDoor.Hand
def bl (s : ByteArray) : List UInt8 := s.data.toList
def lb (l : List UInt8) : ByteArray := ⟨l.toArray⟩
@[simp] theorem bl_lb (l : List UInt8) : bl (lb l) = l := rfl
@[simp] theorem lb_bl (s : ByteArray) : lb (bl s) = s := by cases s; simp [lb, bl]
theorem bl_inj {a b : ByteArray} (h : bl a = bl b) : a = b := by rw [← lb_bl a, ← lb_bl b, h]
theorem bl_len (s : ByteArray) : (bl s).length = s.size := by unfold bl; rw [Array.length_toList]; rfl
theorem lb_size (l : List UInt8) : (lb l).size = l.length := rfl
theorem bl_append (a b : ByteArray) : bl (a ++ b) = bl a ++ bl b := by simp [bl, ByteArray.data_append]
def seen (b : UInt8) : Bool := decide (32 ≤ b.toNat ∧ b.toNat ≤ 126)
def lin : List UInt8 → List (List UInt8) → List UInt8 → List (List UInt8) × Int × Int
  | cur, out, [] => if cur = [] then (out, 0, 0) else ([], 1, (out.length : Int) + 1)
  | cur, out, b :: r => if b = 10 then lin [] (out ++ [cur]) r else if seen b = true then lin (cur ++ [b]) out r else ([], 1, (out.length : Int) + 1)
def linesL (s : List UInt8) : List (List UInt8) × Int × Int := if s.length > 65536 then ([], 3, 0) else lin [] [] s
def textL (l : List (List UInt8)) : List UInt8 := l.flatMap (fun s => s ++ [10])
theorem textL_cons (x : List UInt8) (l : List (List UInt8)) : textL (x :: l) = x ++ 10 :: textL l := by simp [textL]
theorem textL_append (a b : List (List UInt8)) : textL (a ++ b) = textL a ++ textL b := by simp [textL]
theorem lin_back : ∀ (s cur : List UInt8) (out m : List (List UInt8)) (f : Int), lin cur out s = (m, 0, f) → textL out ++ cur ++ s = textL m ∧ f = 0
  | [], cur, out, m, f, h => by
    unfold lin at h
    split at h
    · rename_i hc
      simp at h
      simp [hc, h]
    · simp at h
  | b :: r, cur, out, m, f, h => by
    unfold lin at h
    split at h
    · rename_i hb
      have := lin_back r [] (out ++ [cur]) m f h
      rw [textL_append] at this
      simp [textL] at this ⊢
      rw [hb]
      exact this
    · split at h
      · have := lin_back r (cur ++ [b]) out m f h
        simpa using this
      · simp at h
theorem lines_back (s : List UInt8) (m : List (List UInt8)) (f : Int) (h : linesL s = (m, 0, f)) : textL m = s ∧ f = 0 := by
  unfold linesL at h
  split at h
  · simp at h
  · have := lin_back s [] [] m f h
    simp [textL] at this
    simp [textL, this]
def fld : List UInt8 → List UInt8 → List (List UInt8)
  | cur, [] => [cur]
  | cur, b :: r => if b = 32 then cur :: fld [] r else fld (cur ++ [b]) r
def fieldsL (s : List UInt8) : List (List UInt8) := fld [] s
def lineL : List (List UInt8) → List UInt8
  | [] => []
  | [x] => x
  | x :: y :: l => x ++ 32 :: lineL (y :: l)
theorem fld_ne : ∀ (s cur : List UInt8), fld cur s ≠ []
  | [], _ => by simp [fld]
  | b :: r, cur => by
    unfold fld
    split
    · simp
    · exact fld_ne r _
theorem lineL_cons (x : List UInt8) (l : List (List UInt8)) (h : l ≠ []) : lineL (x :: l) = x ++ 32 :: lineL l := by
  cases l with
  | nil => exact absurd rfl h
  | cons y l => rfl
theorem line_fld : ∀ (s cur : List UInt8), lineL (fld cur s) = cur ++ s
  | [], cur => by simp [fld, lineL]
  | b :: r, cur => by
    unfold fld
    split
    · rename_i hb
      rw [lineL_cons _ _ (fld_ne _ _), line_fld r [], hb]
      simp
    · rw [line_fld r]
      simp
theorem line_fields (s : List UInt8) : lineL (fieldsL s) = s := line_fld s []
def blank (l : List UInt8) : Bool := l.any (fun b => b == 32)
theorem fld_word : ∀ (x cur r : List UInt8), blank x = false → fld cur (x ++ 32 :: r) = (cur ++ x) :: fld [] r
  | [], cur, r, _ => by simp [fld]
  | b :: x, cur, r, h => by
    unfold blank at h
    simp only [List.any_cons, Bool.or_eq_false_iff] at h
    rw [List.cons_append, fld, if_neg (by simpa using h.1), fld_word x _ r h.2]
    simp
theorem fld_last : ∀ (x cur : List UInt8), blank x = false → fld cur x = [cur ++ x]
  | [], cur, _ => by simp [fld]
  | b :: x, cur, h => by
    unfold blank at h
    simp only [List.any_cons, Bool.or_eq_false_iff] at h
    rw [fld, if_neg (by simpa using h.1), fld_last x _ h.2]
    simp
theorem fields_line : ∀ (l : List (List UInt8)), l ≠ [] → (∀ x ∈ l, blank x = false) → fieldsL (lineL l) = l
  | [], h, _ => absurd rfl h
  | [x], _, h => by unfold fieldsL lineL; rw [fld_last x [] (h x (by simp))]; simp
  | x :: y :: l, _, h => by
    have ih := fields_line (y :: l) (by simp) (fun z hz => h z (by simp only [List.mem_cons] at hz ⊢; right; exact hz))
    unfold fieldsL at ih ⊢
    rw [lineL_cons _ _ (by simp), fld_word x [] _ (h x (by simp)), ih]
    simp
end Go.Proofs.YtmlbfepibfobaaaDoor.Hand
end

section
namespace Go.Proofs.YtmlbfepibfobaaaDoor.Hand
open Go.RowKit Go.Proofs.YtmlbfepibfobaaaDoorW.PrintWords Go.Proofs.YtmlbfepibfobaaaDoorW.PrintLast Go.Proofs.YtmlbfepibfobaaaDoorW.PrintMore
set_option linter.unusedVariables false
set_option linter.unusedSimpArgs false
theorem wrap_in {x : Int} (h0 : -9223372036854775808 ≤ x) (h1 : x < 9223372036854775808) : wrap64 x = x := by
  unfold wrap64
  omega
theorem get_data (s : ByteArray) (i : Nat) (h : i < s.size) : s.data.toList[i]'(by rw [Array.length_toList]; exact h) = s[i] := by
  rw [Array.getElem_toList]; rfl
theorem drop_data (s : ByteArray) (i : Nat) (h : i < s.size) : s.data.toList.drop i = s[i] :: s.data.toList.drop (i + 1) := by
  rw [List.drop_eq_getElem_cons (by rw [Array.length_toList]; exact h), get_data s i h]
theorem bt_nat (s : ByteArray) (i : Nat) (h : i < s.size) : bt s (i : Int) = (s[i].toNat : Int) := by
  unfold bt
  rw [dif_pos (by simpa using h)]
  rfl
theorem bt_bl (s : ByteArray) (i : Nat) (h : i < s.size) : ∃ b, (bl s)[i]? = some b ∧ bt s i = (b.toNat : Int) ∧ (bl s).drop i = b :: (bl s).drop (i + 1) := by
  refine ⟨s[i], ?_, bt_nat s i h, drop_data s i h⟩
  unfold bl
  rw [List.getElem?_eq_getElem (by rw [Array.length_toList]; exact h), get_data s i h]
theorem isEmpty_bl (s : ByteArray) : (bl s).isEmpty = decide (s.size = 0) := by
  rw [Bool.eq_iff_iff, List.isEmpty_iff, decide_eq_true_iff, ← bl_len, List.length_eq_zero_iff]
def untilL (b : UInt8) : List UInt8 → Option (List UInt8 × List UInt8)
  | [] => none
  | x :: r => if x = b then some ([], r) else (untilL b r).map fun p => (x :: p.1, p.2)
theorem until_some {b : UInt8} : ∀ (l n r : List UInt8), untilL b l = some (n, r) → l = n ++ b :: r ∧ b ∉ n
  | [], n, r, h => by simp [untilL] at h
  | x :: l, n, r, h => by
    unfold untilL at h
    split at h
    · rename_i e
      simp at h
      obtain ⟨rfl, rfl⟩ := h
      simp [e]
    · rename_i hx
      obtain ⟨⟨a, b'⟩, h1, h2⟩ := Option.map_eq_some_iff.1 h
      simp at h2
      obtain ⟨rfl, rfl⟩ := h2
      obtain ⟨h3, h4⟩ := until_some l a b' h1
      refine ⟨by rw [h3]; rfl, ?_⟩
      simp only [List.mem_cons, not_or]
      exact ⟨fun e => hx e.symm, h4⟩
theorem until_none {b : UInt8} : ∀ (l : List UInt8), untilL b l = none ↔ b ∉ l
  | [] => by simp [untilL]
  | x :: l => by
    unfold untilL
    by_cases h : x = b
    · simp [h]
    · rw [if_neg h, Option.map_eq_none_iff, until_none l]
      simp only [List.mem_cons, not_or]
      exact ⟨fun h2 => ⟨fun e => h e.symm, h2⟩, fun h2 => h2.2⟩
end Go.Proofs.YtmlbfepibfobaaaDoor.Hand
end

section
namespace Go.Proofs.YtmlbfepibfobaaaDoor.Hand
open Go.RowKit Go.Proofs.YtmlbfepibfobaaaDoorW.PrintWords Go.Proofs.YtmlbfepibfobaaaDoorW.PrintLast Go.Proofs.YtmlbfepibfobaaaDoorW.PrintMore
set_option linter.unusedVariables false
structure S66 where
  f0 : Bool
  f1 : Bool
  f2 : ByteArray
  f3 : ByteArray
  f4 : ByteArray
def z66 : S66 := ⟨false, false, (⟨#[]⟩ : ByteArray), (⟨#[]⟩ : ByteArray), (⟨#[]⟩ : ByteArray)⟩
def k66 : Kd S66 := Kd.iso (Kd.pair Kd.bool (Kd.pair Kd.bool (Kd.pair Kd.string (Kd.pair Kd.string Kd.string)))) (fun x : S66 => (x.f0, x.f1, x.f2, x.f3, x.f4))
theorem k66_open {w : World} {x : S66} {cs : List Value} (h : k66.K w x cs) : cs = [.bool x.f0, .bool x.f1, .string x.f2, .string x.f3, .string x.f4] := by
  obtain ⟨_, _, rfl, rfl, ⟨_, _, rfl, rfl, ⟨_, _, rfl, rfl, ⟨_, _, rfl, rfl, rfl⟩⟩⟩⟩ := h
  exact rfl
theorem k66_mk (w : World) (x : S66)  : k66.K w x [.bool x.f0, .bool x.f1, .string x.f2, .string x.f3, .string x.f4] := ⟨[.bool x.f0], [.bool x.f1, .string x.f2, .string x.f3, .string x.f4], rfl, rfl, ⟨[.bool x.f1], [.string x.f2, .string x.f3, .string x.f4], rfl, rfl, ⟨[.string x.f2], [.string x.f3, .string x.f4], rfl, rfl, ⟨[.string x.f3], [.string x.f4], rfl, rfl, rfl⟩⟩⟩⟩
theorem k66_mkM (w : World) (base : Nat) (ok : Nat → Prop) (x : S66)  : k66.M w base ok x [.bool x.f0, .bool x.f1, .string x.f2, .string x.f3, .string x.f4] := ⟨[.bool x.f0], [.bool x.f1, .string x.f2, .string x.f3, .string x.f4], rfl, rfl, ⟨[.bool x.f1], [.string x.f2, .string x.f3, .string x.f4], rfl, rfl, ⟨[.string x.f2], [.string x.f3, .string x.f4], rfl, rfl, ⟨[.string x.f3], [.string x.f4], rfl, rfl, rfl⟩⟩⟩⟩
def rd_T66 (xs : List S66) (i : Int) : S66 := xs.getD i.toNat z66
theorem at_T66 {w : World} {A : Option Addr} {n : Nat} {xs : List S66} (h : Kd.C k66 w A n xs) (i : Int) (h0 : 0 ≤ i) (h1 : i < n) : ∃ ad , A = some ad ∧ w.cell? (ad.add (i.toNat * 5)) = some (.bool (rd_T66 xs i).f0) ∧ w.cell? ⟨(ad.add (i.toNat * 5)).block, (ad.add (i.toNat * 5)).off + 1, none⟩ = some (.bool (rd_T66 xs i).f1) ∧ w.cell? ⟨(ad.add (i.toNat * 5)).block, (ad.add (i.toNat * 5)).off + 2, none⟩ = some (.string (rd_T66 xs i).f2) ∧ w.cell? ⟨(ad.add (i.toNat * 5)).block, (ad.add (i.toNat * 5)).off + 3, none⟩ = some (.string (rd_T66 xs i).f3) ∧ w.cell? ⟨(ad.add (i.toNat * 5)).block, (ad.add (i.toNat * 5)).off + 4, none⟩ = some (.string (rd_T66 xs i).f4) := by
  obtain ⟨ad, c, e, _, hK, hc0⟩ := Kd.C_get h z66 i h0 h1
  have hc : ∀ j u, c[j]? = some u → w.cell? (ad.add (i.toNat * 5 + j)) = some u := hc0
  obtain rfl := k66_open hK
  exact ⟨ad, e, hc 0 _ rfl, by rw [← add_field _ _ 1 (by omega)]; exact hc 1 _ rfl, by rw [← add_field _ _ 2 (by omega)]; exact hc 2 _ rfl, by rw [← add_field _ _ 3 (by omega)]; exact hc 3 _ rfl, by rw [← add_field _ _ 4 (by omega)]; exact hc 4 _ rfl⟩
end Go.Proofs.YtmlbfepibfobaaaDoor.Hand
end

section
namespace Go.Proofs.YtmlbfepibfobaaaDoor.Hand
abbrev Rl := Bool × Bool × List UInt8 × List UInt8 × List UInt8
def globB (b : UInt8) : Bool := decide (33 ≤ b.toNat ∧ b.toNat ≤ 126)
def globR (l : List UInt8) : Bool := l.all globB && decide (0 < l.length ∧ l.length ≤ 64)
def rightR (r : Rl) : Bool := globR r.2.2.1 && (if r.2.1 = true then globR r.2.2.2.1 && globR r.2.2.2.2 else decide (r.2.2.2.1 = [] ∧ r.2.2.2.2 = []))
def keepW : List UInt8 := [107, 101, 101, 112]
def namesW : List UInt8 := [107, 101, 101, 112, 110, 97, 109, 101]
def classW : List UInt8 := [99, 108, 97, 115, 115]
def memberW : List UInt8 := [109, 101, 109, 98, 101, 114]
def wordsR (r : Rl) : List (List UInt8) := if r.2.1 = true then [if r.1 = true then namesW else keepW, memberW, r.2.2.1, r.2.2.2.1, r.2.2.2.2] else [if r.1 = true then namesW else keepW, classW, r.2.2.1]
def lineR (r : Rl) : List UInt8 := lineL (wordsR r)
def readR : List (List UInt8) → Option Rl
  | [a, b, c] => if b = classW ∧ (a = namesW ∨ a = keepW) ∧ rightR (decide (a = namesW), false, c, [], []) = true then some (decide (a = namesW), false, c, [], []) else none
  | [a, b, c, d, e] => if b = memberW ∧ (a = namesW ∨ a = keepW) ∧ rightR (decide (a = namesW), true, c, d, e) = true then some (decide (a = namesW), true, c, d, e) else none
  | _ => none
def rulesF : Nat → List Rl → List (List UInt8) → List Rl × Int × Int
  | _, out, [] => (out, 0, 0)
  | i, out, l :: ls => match readR (fieldsL l) with
    | some r => if 64 ≤ i then ([], 3, (i : Int) + 1) else rulesF (i + 1) (out ++ [r]) ls
    | none => ([], 10, (i : Int) + 1)
def rulesL (s : List UInt8) : List Rl × Int × Int := match linesL s with
  | (l, e, at_) => if e = 0 then rulesF 0 [] l else ([], e, at_)
def printR (l : List Rl) : List UInt8 × Int := if l.length > 64 then ([], 3) else if l.all rightR = true then (textL (l.map lineR), 0) else ([], 10)
theorem globB_seen {b : UInt8} (h : globB b = true) : seen b = true ∧ b ≠ 32 := by
  unfold globB at h
  have h := of_decide_eq_true h
  refine ⟨by unfold seen; exact decide_eq_true (by omega), ?_⟩
  rintro rfl
  have : (32 : UInt8).toNat = 32 := rfl
  omega
theorem globR_seen {l : List UInt8} (h : globR l = true) : l.all seen = true ∧ blank l = false ∧ l.length ≤ 64 ∧ 0 < l.length := by
  unfold globR at h
  simp only [Bool.and_eq_true, decide_eq_true_iff] at h
  refine ⟨List.all_eq_true.2 fun b hb => (globB_seen (List.all_eq_true.1 h.1 b hb)).1, ?_, h.2.2, h.2.1⟩
  unfold blank
  rw [List.any_eq_false]
  intro b hb
  have := (globB_seen (List.all_eq_true.1 h.1 b hb)).2
  simpa using this
theorem words_seen {r : Rl} (h : rightR r = true) : (∀ x ∈ wordsR r, x.all seen = true ∧ blank x = false ∧ x.length ≤ 64) ∧ wordsR r ≠ [] ∧ (wordsR r).length ≤ 5 := by
  obtain ⟨n, m, c, a, d⟩ := r
  unfold rightR at h
  simp only [Bool.and_eq_true] at h
  have hc := globR_seen h.1
  have hk : ∀ b : Bool, (if b = true then namesW else keepW).all seen = true ∧ blank (if b = true then namesW else keepW) = false ∧ (if b = true then namesW else keepW).length ≤ 64 := by decide
  have h1 : classW.all seen = true ∧ blank classW = false ∧ classW.length ≤ 64 := by decide
  have h2 : memberW.all seen = true ∧ blank memberW = false ∧ memberW.length ≤ 64 := by decide
  cases m with
  | true =>
    have h3 := h.2
    simp only [if_true, Bool.and_eq_true] at h3
    have ha := globR_seen h3.1
    have hd := globR_seen h3.2
    refine ⟨?_, by simp [wordsR], by simp [wordsR]⟩
    intro x hx
    simp only [wordsR, if_true, List.mem_cons, List.not_mem_nil, or_false] at hx
    rcases hx with rfl | rfl | rfl | rfl | rfl
    · exact hk n
    · exact h2
    · exact ⟨hc.1, hc.2.1, hc.2.2.1⟩
    · exact ⟨ha.1, ha.2.1, ha.2.2.1⟩
    · exact ⟨hd.1, hd.2.1, hd.2.2.1⟩
  | false =>
    refine ⟨?_, by simp [wordsR], by simp [wordsR]⟩
    intro x hx
    simp only [wordsR, Bool.false_eq_true, if_false, List.mem_cons, List.not_mem_nil, or_false] at hx
    rcases hx with rfl | rfl | rfl
    · exact hk n
    · exact h1
    · exact ⟨hc.1, hc.2.1, hc.2.2.1⟩
theorem read_words {r : Rl} (h : rightR r = true) : readR (wordsR r) = some r := by
  obtain ⟨n, m, c, a, d⟩ := r
  have hn : ∀ b : Bool, ((if b = true then namesW else keepW) = namesW ∨ (if b = true then namesW else keepW) = keepW) ∧ decide ((if b = true then namesW else keepW) = namesW) = b := by decide
  cases m with
  | true =>
    simp only [wordsR, if_true, readR]
    rw [(hn n).2, if_pos ⟨by trivial, (hn n).1, h⟩]
  | false =>
    have h' := h
    unfold rightR at h'
    simp only [Bool.false_eq_true, if_false, Bool.and_eq_true, decide_eq_true_iff] at h'
    obtain ⟨_, rfl, rfl⟩ := h'
    simp only [wordsR, Bool.false_eq_true, if_false, readR]
    rw [(hn n).2, if_pos ⟨by trivial, (hn n).1, h⟩]
theorem words_read {w : List (List UInt8)} {r : Rl} (h : readR w = some r) : rightR r = true ∧ wordsR r = w := by
  unfold readR at h
  split at h
  · rename_i a b c
    split at h
    · rename_i hg
      simp only [Option.some.injEq] at h
      subst h
      refine ⟨hg.2.2, ?_⟩
      simp only [wordsR, Bool.false_eq_true, if_false]
      rw [hg.1]
      rcases hg.2.1 with e | e
      · rw [e]; simp
      · rw [e]; simp [show keepW ≠ namesW from by decide]
    · cases h
  · rename_i a b c d e
    split at h
    · rename_i hg
      simp only [Option.some.injEq] at h
      subst h
      refine ⟨hg.2.2, ?_⟩
      simp only [wordsR, if_true]
      rw [hg.1]
      rcases hg.2.1 with e | e
      · rw [e]; simp
      · rw [e]; simp [show keepW ≠ namesW from by decide]
    · cases h
  · cases h
theorem read_line {r : Rl} (h : rightR r = true) : readR (fieldsL (lineR r)) = some r := by
  obtain ⟨h1, h2, _⟩ := words_seen h
  unfold lineR
  rw [fields_line _ h2 (fun x hx => (h1 x hx).2.1), read_words h]
theorem line_read {s : List UInt8} {r : Rl} (h : readR (fieldsL s) = some r) : rightR r = true ∧ lineR r = s := by
  obtain ⟨h1, h2⟩ := words_read h
  refine ⟨h1, ?_⟩
  unfold lineR
  rw [h2, line_fields]
theorem lineL_len : ∀ (l : List (List UInt8)), (∀ x ∈ l, x.length ≤ 64) → (lineL l).length ≤ 65 * l.length
  | [], _ => by simp [lineL]
  | [x], h => by have := h x (by simp); simp [lineL]; omega
  | x :: y :: l, h => by
    have ih := lineL_len (y :: l) (fun z hz => h z (by simp only [List.mem_cons] at hz ⊢; right; exact hz))
    have := h x (by simp)
    rw [lineL_cons _ _ (by simp), List.length_append, List.length_cons]
    simp only [List.length_cons] at ih ⊢
    omega
theorem textL_len : ∀ (l : List (List UInt8)) (n : Nat), (∀ x ∈ l, x.length ≤ n) → (textL l).length ≤ (n + 1) * l.length
  | [], _, _ => by simp [textL]
  | x :: l, n, h => by
    have ih := textL_len l n (fun z hz => h z (by simp [hz]))
    have := h x (by simp)
    rw [textL_cons, List.length_append, List.length_cons, List.length_cons, Nat.mul_add]
    omega
theorem rulesF_back : ∀ (ls : List (List UInt8)) (i : Nat) (out m : List Rl) (f : Int), rulesF i out ls = (m, 0, f) → i = out.length → (∀ r ∈ out, rightR r = true) → out.length ≤ 64 → f = 0 ∧ (∀ r ∈ m, rightR r = true) ∧ m.length ≤ 64 ∧ m.map lineR = out.map lineR ++ ls
  | [], i, out, m, f, h, hi, ho, hl => by
    simp [rulesF] at h
    obtain ⟨rfl, rfl⟩ := h
    exact ⟨rfl, ho, hl, by simp⟩
  | l :: ls, i, out, m, f, h, hi, ho, hl => by
    rw [rulesF] at h
    split at h
    · rename_i r e
      split at h
      · simp at h
      · rename_i hi2
        obtain ⟨h1, h2⟩ := line_read e
        have := rulesF_back ls (i + 1) (out ++ [r]) m f h (by simp; omega) (by
          intro x hx
          simp at hx
          rcases hx with hx | hx
          · exact ho x hx
          · rw [hx]; exact h1) (by simp; omega)
        refine ⟨this.1, this.2.1, this.2.2.1, ?_⟩
        rw [this.2.2.2]
        simp [h2]
    · simp at h
theorem print_rules {s : List UInt8} {m : List Rl} {f : Int} (h : rulesL s = (m, 0, f)) : printR m = (s, 0) ∧ f = 0 := by
  unfold rulesL at h
  split at h
  rename_i l e at_ hl
  split at h
  · rename_i he
    subst he
    obtain ⟨h1, h2, h3, h4⟩ := rulesF_back l 0 [] m f h rfl (by simp) (by simp)
    obtain ⟨h5, _⟩ := lines_back s l at_ hl
    unfold printR
    rw [if_neg (by omega), if_pos (List.all_eq_true.2 h2), h4]
    simp only [List.map_nil, List.nil_append, h5, h1, and_self]
  · rename_i he
    simp only [Prod.mk.injEq] at h
    exact absurd h.2.1 he
theorem rules_none {s : List UInt8} {m : List Rl} {e f : Int} (h : rulesL s = (m, e, f)) (he : e ≠ 0) : m = [] := by
  unfold rulesL at h
  split at h
  rename_i l e' at_ hl
  split at h
  · have : ∀ (ls : List (List UInt8)) (i : Nat) (out : List Rl), rulesF i out ls = (m, e, f) → m = [] := by
      intro ls
      induction ls with
      | nil => intro i out h; simp only [rulesF, Prod.mk.injEq] at h; exact absurd h.2.1.symm he
      | cons l ls ih =>
        intro i out h
        rw [rulesF] at h
        split at h
        · split at h
          · simp only [Prod.mk.injEq] at h; exact h.1.symm
          · exact ih _ _ h
        · simp only [Prod.mk.injEq] at h; exact h.1.symm
    exact this _ _ _ h
  · simp only [Prod.mk.injEq] at h; exact h.1.symm
end Go.Proofs.YtmlbfepibfobaaaDoor.Hand
end

section
namespace Go.Proofs.YtmlbfepibfobaaaDoor.Hand
inductive Mt : List UInt8 → List UInt8 → Prop
  | nil : Mt [] []
  | one (c x : UInt8) (p s : List UInt8) (h : c ≠ 42) (h2 : c = 63 ∨ c = x) (m : Mt p s) : Mt (c :: p) (x :: s)
  | none (p s : List UInt8) (m : Mt p s) : Mt (42 :: p) s
  | more (x : UInt8) (p s : List UInt8) (m : Mt (42 :: p) s) : Mt (42 :: p) (x :: s)
def mat : List UInt8 → List UInt8 → Bool
  | [], [] => true
  | [], _ :: _ => false
  | c :: p, [] => c == 42 && mat p []
  | c :: p, x :: s => if c = 42 then mat p (x :: s) || mat (c :: p) s else (c == 63 || c == x) && mat p s
theorem mat_iff (p s : List UInt8) : mat p s = true ↔ Mt p s := by
  constructor
  · intro h
    fun_induction mat p s with
    | case1 => exact .nil
    | case2 => cases h
    | case3 c p ih =>
      simp only [Bool.and_eq_true, beq_iff_eq] at h
      rw [h.1]
      exact .none _ _ (ih h.2)
    | case4 p x s ih1 ih2 =>
      simp only [Bool.or_eq_true] at h
      rcases h with h | h
      · exact .none _ _ (ih1 h)
      · exact .more _ _ _ (ih2 h)
    | case5 c p x s hc ih =>
      simp only [Bool.and_eq_true, Bool.or_eq_true, beq_iff_eq] at h
      exact .one _ _ _ _ hc h.1 (ih h.2)
  · intro h
    induction h with
    | nil => simp [mat]
    | one c x p s h h2 m ih => rw [mat, if_neg h, ih]; simpa using h2
    | none p s m ih => cases s with
      | nil => simp [mat, ih]
      | cons x s => simp [mat, ih]
    | more x p s m ih => simp [mat, ih]
theorem Mt.append {p s q t : List UInt8} (h : Mt p s) (h2 : Mt q t) : Mt (p ++ q) (s ++ t) := by
  induction h with
  | nil => exact h2
  | one c x p s h h3 m ih => exact .one _ _ _ _ h h3 ih
  | none p s m ih => exact .none _ _ ih
  | more x p s m ih => exact .more _ _ _ ih
theorem Mt.split {r s : List UInt8} (h : Mt r s) : ∀ p q, r = p ++ q → ∃ u v, s = u ++ v ∧ Mt p u ∧ Mt q v := by
  induction h with
  | nil => intro p q h; simp at h; rw [h.1, h.2]; exact ⟨[], [], rfl, .nil, .nil⟩
  | one c x p s h h3 m ih =>
    intro a q e
    cases a with
    | nil => exact ⟨[], x :: s, rfl, .nil, by rw [← (by simpa using e : c :: p = q)]; exact .one _ _ _ _ h h3 m⟩
    | cons y a =>
      simp at e
      obtain ⟨u, v, e2, h4, h5⟩ := ih a q e.2
      exact ⟨x :: u, v, by rw [e2]; rfl, by rw [← e.1]; exact .one _ _ _ _ h h3 h4, h5⟩
  | none p s m ih =>
    intro a q e
    cases a with
    | nil => exact ⟨[], s, rfl, .nil, by rw [← (by simpa using e : 42 :: p = q)]; exact .none _ _ m⟩
    | cons y a =>
      simp at e
      obtain ⟨u, v, e2, h4, h5⟩ := ih a q e.2
      exact ⟨u, v, e2, by rw [← e.1]; exact .none _ _ h4, h5⟩
  | more x p s m ih =>
    intro a q e
    cases a with
    | nil => exact ⟨[], x :: s, rfl, .nil, by rw [← (by simpa using e : 42 :: p = q)]; exact .more _ _ _ m⟩
    | cons y a =>
      obtain ⟨u, v, e2, h4, h5⟩ := ih (y :: a) q e
      simp at e
      rw [← e.1] at h4 ⊢
      exact ⟨x :: u, v, by rw [e2]; rfl, .more _ _ _ h4, h5⟩
theorem Mt.star (p s : List UInt8) : Mt (42 :: p) s ↔ ∃ u v, s = u ++ v ∧ Mt p v := by
  constructor
  · intro h
    obtain ⟨u, v, e, _, h2⟩ := h.split [42] p rfl
    exact ⟨u, v, e, h2⟩
  · rintro ⟨u, v, rfl, h⟩
    induction u with
    | nil => exact .none _ _ h
    | cons x u ih => exact .more _ _ _ ih
theorem Mt.stars {p : List UInt8} : Mt p [] ↔ ∀ c ∈ p, c = 42 := by
  constructor
  · intro h
    generalize e : ([] : List UInt8) = s at h
    induction h with
    | nil => simp
    | one => cases e
    | none p s m ih => intro c hc; simp at hc; rcases hc with h | h
                       · exact h
                       · exact ih e c h
    | more => cases e
  · intro h
    induction p with
    | nil => exact .nil
    | cons c p ih => rw [h c (by simp)]; exact .none _ _ (ih fun x hx => h x (by simp [hx]))
theorem Mt.cons {c : UInt8} {p s : List UInt8} (hc : c ≠ 42) : Mt (c :: p) s ↔ ∃ x t, s = x :: t ∧ (c = 63 ∨ c = x) ∧ Mt p t := by
  constructor
  · intro h
    cases h with
    | one _ x _ t _ h2 m => exact ⟨x, t, rfl, h2, m⟩
    | none => exact absurd rfl hc
    | more => exact absurd rfl hc
  · rintro ⟨x, t, rfl, h2, m⟩
    exact .one _ _ _ _ hc h2 m
def litAt (p s : List UInt8) : Nat → Prop
  | 0 => True
  | j + 1 => litAt p s j ∧ ∃ c x, p[j]? = some c ∧ s[j]? = some x ∧ c ≠ 42 ∧ (c = 63 ∨ c = x)
theorem lit_mt : ∀ (j : Nat) (p s : List UInt8), litAt p s j → Mt (p.take j) (s.take j) ∧ j ≤ p.length ∧ j ≤ s.length
  | 0, p, s, _ => by simp; exact .nil
  | j + 1, p, s, h => by
    obtain ⟨h1, c, x, hp, hs, hc, hx⟩ := h
    obtain ⟨h2, h3, h4⟩ := lit_mt j p s h1
    obtain ⟨hp1, hp2⟩ := List.getElem?_eq_some_iff.1 hp
    obtain ⟨hs1, hs2⟩ := List.getElem?_eq_some_iff.1 hs
    rw [List.take_succ_eq_append_getElem hp1, List.take_succ_eq_append_getElem hs1, hp2, hs2]
    exact ⟨h2.append (.one _ _ _ _ hc hx .nil), by omega, by omega⟩
theorem lit_len : ∀ (j : Nat) (p s t : List UInt8), litAt p s j → Mt (p.take j) t → t.length = j
  | 0, p, s, t, _, h => by simp at h; cases h; rfl
  | j + 1, p, s, t, hl, h => by
    obtain ⟨h1, c, x, hp, hs, hc, hx⟩ := hl
    obtain ⟨hp1, hp2⟩ := List.getElem?_eq_some_iff.1 hp
    rw [List.take_succ_eq_append_getElem hp1, hp2] at h
    obtain ⟨u, v, e, h2, h3⟩ := h.split _ _ rfl
    obtain ⟨y, t', e2, _, h4⟩ := (Mt.cons hc).1 h3
    cases h4
    have := lit_len j p s u h1 h2
    rw [e, e2]
    simp [this]
theorem lit_go {p s : List UInt8} {j : Nat} (h : litAt p s j) : Mt p s ↔ Mt (p.drop j) (s.drop j) := by
  obtain ⟨h1, h2, h3⟩ := lit_mt j p s h
  constructor
  · intro m
    obtain ⟨u, v, e, m1, m2⟩ := m.split (p.take j) (p.drop j) (by simp)
    have hl := lit_len j p s u h m1
    have : s.drop j = v := by rw [e, List.drop_append]; simp [hl]
    rw [this]
    exact m2
  · intro m
    have := h1.append m
    simpa using this
theorem lit_end {p s : List UInt8} {j : Nat} (h : litAt p s j) (hs : s.length = j) : Mt (42 :: p) s ↔ ∀ c ∈ p.drop j, c = 42 := by
  rw [Mt.star, ← Mt.stars]
  have hd : s.drop j = [] := List.drop_of_length_le (by omega)
  constructor
  · rintro ⟨u, v, e, m⟩
    obtain ⟨a, b, e2, m1, m2⟩ := m.split (p.take j) (p.drop j) (by simp)
    have hl := lit_len j p s a h m1
    have hb : b = [] := by
      rw [e, e2] at hs
      simp at hs
      exact List.length_eq_zero_iff.1 (by omega)
    rw [hb] at m2
    exact m2
  · intro m
    refine ⟨[], s, rfl, (lit_go h).2 ?_⟩
    rw [hd]
    exact m
theorem lit_miss {p s : List UInt8} {j : Nat} (h : litAt p s j) (hj : j < s.length) (hn : ¬ Mt (p.drop j) (s.drop j)) : Mt (42 :: p) s ↔ Mt (42 :: p) (s.drop 1) := by
  cases s with
  | nil => simp at hj
  | cons x s =>
    constructor
    · intro m
      cases m with
      | one _ _ _ _ h => exact absurd rfl h
      | none _ _ m => exact absurd ((lit_go h).1 m) hn
      | more _ _ _ m => exact m
    · intro m
      exact .more _ _ _ m
theorem lit_star {p s : List UInt8} {j : Nat} (h : litAt p s j) (hs : p[j]? = some 42) : Mt (42 :: p) s ↔ Mt (p.drop j) (s.drop j) := by
  obtain ⟨hj, hj2⟩ := List.getElem?_eq_some_iff.1 hs
  have hd : p.drop j = 42 :: p.drop (j + 1) := by rw [List.drop_eq_getElem_cons hj, hj2]
  constructor
  · intro m
    obtain ⟨u, v, e, m⟩ := (Mt.star _ _).1 m
    obtain ⟨a, b, e2, m1, m2⟩ := m.split (p.take j) (p.drop j) (by simp)
    have hl := lit_len j p s a h m1
    rw [hd] at m2 ⊢
    obtain ⟨u2, v2, e3, m3⟩ := (Mt.star _ _).1 m2
    refine (Mt.star _ _).2 ⟨(u ++ a).drop j ++ u2, v2, ?_, m3⟩
    rw [e, e2, e3, ← List.append_assoc u, List.drop_append, show j - (u ++ a).length = 0 from by simp; omega]
    simp
  · intro m
    exact .none _ _ ((lit_go h).2 m)
theorem lit_succ {p s : List UInt8} {j : Nat} (h : litAt p s j) {c x : UInt8} (hp : p[j]? = some c) (hs : s[j]? = some x) (hc : c ≠ 42) (hx : c = 63 ∨ c = x) : litAt p s (j + 1) := ⟨h, c, x, hp, hs, hc, hx⟩
theorem mt_miss {p s : List UInt8} {x : UInt8} (hx : s[0]? = some x) (hp : ∀ c, p[0]? = some c → c ≠ 42 ∧ ¬ (c = 63 ∨ c = x)) : ¬ Mt p s := by
  intro m
  cases s with
  | nil => simp at hx
  | cons y s =>
    simp at hx
    subst hx
    cases p with
    | nil => cases m
    | cons c p =>
      obtain ⟨h1, h2⟩ := hp c rfl
      obtain ⟨z, t, e, h3, _⟩ := (Mt.cons h1).1 m
      simp at e
      rw [e.1] at h2
      exact h2 h3
end Go.Proofs.YtmlbfepibfobaaaDoor.Hand
end

section
namespace Go.Proofs.YtmlbfepibfobaaaDoor.Hand
open Go.RowKit Go.Proofs.YtmlbfepibfobaaaDoorW.PrintWords Go.Proofs.YtmlbfepibfobaaaDoorW.PrintLast Go.Proofs.YtmlbfepibfobaaaDoorW.PrintMore
set_option linter.unusedVariables false
set_option linter.unusedSimpArgs false
def oddR (x : Nat) : Bool := decide (x < 32) || decide (126 < x)
theorem plain_idx (s : ByteArray) : ∀ (f pos : Nat), s.size - pos ≤ f → (Lib.idxFuncFrom oddR true s f pos < 0 ↔ ((bl s).drop pos).all seen = true) := by
  intro f
  induction f with
  | zero =>
    intro pos h
    rw [List.drop_of_length_le (by rw [bl_len]; omega)]
    simp [Lib.idxFuncFrom]
  | succ f ih =>
    intro pos h
    by_cases hp : pos < s.size
    · obtain ⟨b, hb1, hb2, hdr⟩ := bt_bl s pos hp
      have hbs : s[pos].toNat = b.toNat := by have := bt_nat s pos hp; rw [hb2] at this; omega
      rw [Lib.idxFuncFrom, if_pos hp, hdr, List.all_cons]
      by_cases ha : b.toNat < 128
      · have hd := decode_ascii s pos hp (by rw [hbs]; exact ha)
        rw [hd, hbs]
        by_cases ho : oddR b.toNat = true
        · rw [if_pos ho]
          have : seen b = false := by
            unfold oddR at ho
            unfold seen
            simp at ho ⊢
            omega
          rw [this]
          simp
        · rw [if_neg ho]
          have : seen b = true := by
            unfold oddR at ho
            unfold seen
            simp at ho ⊢
            omega
          rw [this, Bool.true_and]
          exact ih (pos + 1) (by omega)
      · have hd := (decode_high s pos hp (by rw [hbs]; omega)).1
        have ho : oddR (Utf8.decode s pos).1 = true := by unfold oddR; simp; omega
        have : seen b = false := by unfold seen; simp; omega
        rw [if_pos ho, this]
        simp
    · rw [Lib.idxFuncFrom, if_neg hp, List.drop_of_length_le (by rw [bl_len]; omega)]
      simp
theorem plain_iff (s : ByteArray) : decide (Lib.idxFunc oddR true s < 0) = (bl s).all seen := by
  have := plain_idx s s.size 0 (by omega)
  rw [List.drop_zero] at this
  rw [Bool.eq_iff_iff, decide_eq_true_iff]
  exact this
set_option maxHeartbeats 8000000 in
set_option maxRecDepth 100000 in
theorem plain_pred (w : World) : PredAt Tryd.prog 131 #[] encR oddR w := fun W r _ => by
  unfold FnGives
  show Calls Tryd.prog 131 #[.int .i32 (r : Int)] W _
  by_cases h1 : r < 32
  · have hv : Aside0 (oddR r = true) := ⟨by unfold oddR; simp; omega⟩
    have h2 : decide ((r : Int) < 32) = true := decide_eq_true (by omega)
    clear h1
    go_enter Tryd.func131, Tryd.ntmps131
    go_wp2
    go_ret
    exact ⟨by rw [hv.out]; rfl, 0, rfl⟩
  · have h2 : decide ((r : Int) < 32) = false := decide_eq_false (by omega)
    by_cases h3 : 126 < r
    · have hv : Aside0 (oddR r = true) := ⟨by unfold oddR; simp; omega⟩
      have h4 : decide ((126 : Int) < (r : Int)) = true := decide_eq_true (by omega)
      clear h1 h3
      go_enter Tryd.func131, Tryd.ntmps131
      go_wp2
      go_ret
      exact ⟨by rw [hv.out]; rfl, 0, rfl⟩
    · have hv : Aside0 (oddR r = false) := ⟨by unfold oddR; simp; omega⟩
      have h4 : decide ((126 : Int) < (r : Int)) = false := decide_eq_false (by omega)
      clear h1 h3
      go_enter Tryd.func131, Tryd.ntmps131
      go_wp2
      go_ret
      exact ⟨by rw [hv.out]; rfl, 0, rfl⟩
def word_plain.f (s : ByteArray) : Option Bool := some ((bl s).all seen)
set_option maxHeartbeats 8000000 in
set_option maxRecDepth 100000 in
theorem word_plain.calls (a0 : ByteArray) (r : Bool) (w : World) (h : word_plain.f a0 = some r) :
    Calls Tryd.prog 102 #[.string a0] w fun e w' => e = .returned (.bool r) ∧ Below w.heap.size w w' := by
  obtain rfl := Option.some.inj h
  clear h
  have HW := Aside0.mk (Tryd.strings_IndexFunc 131 #[] (by intro args w; rfl) oddR a0 w (plain_pred w))
  have HV := Aside0.mk (plain_iff a0)
  obtain ⟨x, hx⟩ : ∃ x, x = Lib.idxFunc oddR true a0 := ⟨_, rfl⟩
  rw [← hx] at HW HV
  clear hx
  go_enter Tryd.func102, Tryd.ntmps102
  go_wp2_with fail
  refine HW.out.mono ?_
  rintro e w1 ⟨rfl, hb⟩
  go_wp2
  go_ret
  exact ⟨by rw [← HV.out]; rfl, hb⟩
end Go.Proofs.YtmlbfepibfobaaaDoor.Hand
end

section
namespace Go.Proofs.YtmlbfepibfobaaaDoor.Hand
open Go.RowKit Go.Shelf
variable {F : Fence} {n : Nat} {P : Program} {α : Type}
def SameBlk (K : Nat → Prop) (X Y : World) : Prop := ∀ i, K i → Y.heap[i]? = X.heap[i]?
def Holds {β : Type} (b : Nat) (J : β → World → Prop) : Prop := ∀ s X Y, J s X → X.grownBy Y (some b) → J s Y
def SeqBox (F : Fence) (n : Nat) (P : Program) (gf : Nat) (lb : Array Value) (encs : α → Array Value) (b N : Nat) (K : Nat → Prop) (A0 : World → Prop) (S Sp : List α → Prop) : Prop :=
  ∀ (l : Nat) (J Jx : List α → World → Prop) (W : World), A0 W → Holds b J → Holds b Jx →
    (∀ pre x X, J pre X → pre.length < N → YieldAt F (n - 1) P l (encs x) X fun e Y =>
      (e = .returned (.bool true) ∧ J (pre ++ [x]) Y ∧ SameBlk K X Y) ∨ (e = .returned (.bool false) ∧ Jx (pre ++ [x]) Y)) →
    J [] W →
    CallsIn F n P gf (#[.func (.yield l) #[] #[]] ++ lb) W fun e Y => (∃ v, e = .returned v) ∧ ((∃ xs, S xs ∧ J xs Y) ∨ (∃ pre, Sp pre ∧ Jx pre Y))
def HoldsAll {β : Type} (B b : Nat) (J : β → World → Prop) : Prop :=
  ∀ s X Y row, J s X → X.grownBy Y row → (∀ r, row = some r → r = b ∨ (B ≤ r ∧ ∃ o : Obj, X.heap[r]? = some o ∧ o.isCells = false)) → J s Y
theorem HoldsAll.box {β : Type} {B b : Nat} {J : β → World → Prop} (h : HoldsAll B b J) : Holds b J := fun s X Y hs hg => h s X Y _ hs hg (fun r e => .inl (by cases e; rfl))
theorem HoldsAll.put {β : Type} {B b : Nat} {J : β → World → Prop} (h : HoldsAll B b J) {s : β} {W : World} {l : Nat} {o : Obj} (o' : Obj) (hs : J s W) (hB : B ≤ l) (hl : W.heap[l]? = some o) (ho : o.isCells = false) : J s (W.putObj l o') :=
  h s W _ (some l) hs (grownBy_putObj' W l o') (fun r e => by cases e; exact .inr ⟨hB, o, hl, ho⟩)
theorem HoldsAll.lay {β : Type} {B b : Nat} {J : β → World → Prop} (h : HoldsAll B b J) {s : β} {W : World} (o : Obj) (hs : J s W) : J s (W.alloc o) :=
  h s W _ none hs (World.grownBy_alloc W o none) (fun r e => by cases e)
theorem range_box {g : Operand} {ps : Array Tmp} {assign body : Code} {Q : Exit → Act → World → Prop} {a : Act} {w : World}
    (hro : F.round = none) (h1 : 1 ≤ n) {gf : Nat} {lb : Array Value} (hg : a.eval g = .func (.func gf) #[] lb) (hFg : F.fn gf) (eg : ∀ args w, (callFunc gf args).run P w = .ok (.enter gf args) w)
    {encs : α → Array Value} (hps : ∀ x, (encs x).size = ps.size) {b N : Nat} (hb : b < w.heap.size) {Kb : Nat → Prop} (hKb : ∀ i, Kb i → i < w.heap.size) {A0 : World → Prop} {S Sp : List α → Prop} (hseq : SeqBox F (n - 1) P gf lb encs b N Kb A0 S Sp)
    (hA : ∀ W, Below w.heap.size w W → A0 W)
    (I : List α → World → Prop) (Ix : Code → List α → World → Prop) (hI : HoldsAll w.heap.size b I) (hIx : ∀ c, HoldsAll w.heap.size b (Ix c)) (h0 : I [] w) (a₁ : α → Act)
    (hassign : ∀ (l : Nat) (x : α) (W : World) (K : Act → World → Prop), K (a₁ x) W →
      assign.wpIn (F.inRound l) (n - 1 - 1) P (Exit.then K (fun _ _ _ => False)) { tmps := (ps.zip (encs x)).foldl (fun t (p, v) => t.setIfInBounds p v) a.tmps, defers := [] } W)
    (hbody : ∀ (l : Nat) (pre : List α) (x : α) (W : World), I pre W → pre.length < N → body.wpIn (F.inRound l) (n - 1 - 1) P (ownPostK (SameBlk Kb) I Ix (pre ++ [x]) W) (a₁ x) W)
    (hdone : ∀ (D : Nat) (xs : List α) (W : World), w.heap.size ≤ D → S xs → I xs W → W.heap[D]? = some (.deferred (some [])) → Q .normal { a with defers := { target := .collected D, args := #[] } :: a.defers } W)
    (hstop : ∀ (D : Nat) (c : Code) (pre : List α) (W : World), w.heap.size ≤ D → Sp pre → Ix c pre W → W.heap[D]? = some (.deferred (some [])) → c.wpIn F n P Q { a with defers := { target := .collected D, args := #[] } :: a.defers } W) :
    (Code.rangeFunc g ps assign body).wpIn F n P Q a w := by
  refine wpIn_rangeFunc fun fn hfn => ?_
  rw [hro]
  let R0 : Loop := { state := .ready, pending := none, fn := fn, tmps := a.tmps, params := ps, assign := assign, body := body, defers := w.heap.size }
  obtain ⟨R, hR⟩ : ∃ R : Loop, R = R0 := ⟨_, rfl⟩
  obtain ⟨L, hL⟩ : ∃ L, L = w.heap.size + 1 := ⟨_, rfl⟩
  obtain ⟨W1, hW1⟩ : ∃ W1, W1 = (w.alloc (.deferred (some []))).alloc (.loop R) := ⟨_, rfl⟩
  have hbk : Below w.heap.size w W1 := hW1 ▸ ((Below.refl _ w).alloc (Nat.le_refl _) _).alloc (by simp) _
  have hLoop : W1.heap[L]? = some (.loop R) := by
    have := World.alloc_heap_new (w.alloc (.deferred (some []))) (.loop R)
    rw [World.size_alloc] at this
    rw [hW1, hL]
    exact this
  have hDef : W1.heap[w.heap.size]? = some (.deferred (some [])) := by
    rw [hW1]
    exact (Below.heap_alloc _ _ _ (by simp)).trans (World.alloc_heap_new w _)
  have hI1 : I [] W1 := hW1 ▸ hI.lay _ (hI.lay _ h0)
  -- what the loop's book-keeping keeps between two rounds, and behind the last one
  let Between : List α → World → Prop := fun pre X => I pre X ∧ X.heap[L]? = some (.loop R) ∧ X.heap[w.heap.size]? = some (.deferred (some []))
  let Behind : List α → World → Prop := fun pre X => ∃ c, Ix c pre X ∧ X.heap[L]? = some (.loop { R with state := .done, pending := some c }) ∧ X.heap[w.heap.size]? = some (.deferred (some []))
  have far : ∀ {X Y : World} {i : Nat} {o : Obj}, X.grownBy Y (some b) → w.heap.size ≤ i → X.heap[i]? = some o → Y.heap[i]? = some o := fun hg hi ho =>
    (hg.block _ (Array.getElem?_eq_some_iff.1 ho).1 (fun e => by cases e; omega)).trans ho
  have hB1 : Holds b Between := fun s X Y hs hg => ⟨hI.box s X Y hs.1 hg, far hg (by omega) hs.2.1, far hg (Nat.le_refl _) hs.2.2⟩
  have hB2 : Holds b Behind := fun s X Y ⟨c, hc, hl, hd⟩ hg => ⟨c, (hIx c).box s X Y hc hg, far hg (by omega) hl, far hg (Nat.le_refl _) hd⟩
  refine ⟨L, [{ target := .collected w.heap.size, args := #[] }], W1, { target := .fn (.func gf) lb, args := #[.func (.yield L) #[] #[]] }, W1, gf, #[.func (.yield L) #[] #[]] ++ lb, W1, ?_, ?_, ?_, ?_, fun _ => h1, ?_⟩
  · rw [hW1, hL, hR]
    exact run_enterLoop_outer _ _ _ _ _
  · simp only [resolve, hg]
    simp [go_sem]
  · intro f' hf'
    simp [Target.leads] at hf'
    exact hf' ▸ hFg
  · simp [invoke, go_sem, eg]
  refine (hseq L Between Behind W1 (hA W1 hbk) hB1 hB2 ?_ ⟨hI1, hLoop, hDef⟩).mono ?_
  · -- a round
    rintro pre x X ⟨hi, hl, hd⟩ hN
    have hy := run_yield (P := P) (args := encs x) hl (by rw [hR]; exact hps x)
    have hfn' : R.fn = fn := by rw [hR]
    refine ⟨_, _, _, _, hy, roundIn_of_wpIn (by rw [hfn']; exact hfn) ?_⟩
    have e1 : R.assign = assign := by rw [hR]
    have e2 : R.params = ps := by rw [hR]
    have e3 : R.tmps = a.tmps := by rw [hR]
    have e4 : R.body = body := by rw [hR]
    have e5 : R.state = .ready := by rw [hR]
    rw [e1, e2, e3, e4]
    refine hassign L x X _ ⟨_, run_beginRound hl e5, ?_⟩
    have hlt : L < X.heap.size := (Array.getElem?_eq_some_iff.1 hl).1
    obtain ⟨Z, hZ⟩ : ∃ Z, Z = X.putObj L (.loop { R with state := .busy }) := ⟨_, rfl⟩
    have hlZ : Z.heap[L]? = some (.loop { R with state := .busy }) := by rw [hZ]; exact World.putObj_heap_same hlt
    have hdZ : Z.heap[w.heap.size]? = some (.deferred (some [])) := by rw [hZ]; exact (World.putObj_heap_other (by omega)).trans hd
    have hbZ : SameBlk Kb X Z := fun i hi => by have := hKb i hi; rw [hZ]; exact World.putObj_heap_other (by omega)
    have hiZ : I pre Z := by rw [hZ]; exact hI.put _ hi (by omega) hl rfl
    rw [← hZ]
    refine wpIn_mono (hbody L pre x Z hiZ hN) ?_
    have ends : ∀ (j : Option Code) (Y : World), KeepsOthers Z Y → Y.heap[L]? = some (.loop { R with state := .busy }) ∧
        (Instr.endRound L j).run P Y = .ok (.bool j.isNone) (Y.putObj L (.loop { R with state := if j.isNone then .ready else .done, pending := j })) ∧
        (Y.putObj L (.loop { R with state := if j.isNone then .ready else .done, pending := j })).heap[L]? = some (.loop { R with state := if j.isNone then .ready else .done, pending := j }) ∧
        (Y.putObj L (.loop { R with state := if j.isNone then .ready else .done, pending := j })).heap[w.heap.size]? = some (.deferred (some [])) := fun j Y hk => by
      have hlY := hk.same _ _ hlZ rfl
      refine ⟨hlY, ?_, World.putObj_heap_same (Array.getElem?_eq_some_iff.1 hlY).1, (World.putObj_heap_other (by omega)).trans (hk.same _ _ hdZ rfl)⟩
      exact run_endRound (P := P) (r := { R with state := .busy }) j hlY
    have left : ∀ (c : Code) (Y : World), KeepsOthers Z Y → Ix c (pre ++ [x]) Y → ∃ v W', (Instr.endRound L (some c)).run P Y = .ok v W' ∧
        ((Ending.returned v = .returned (.bool true) ∧ Between (pre ++ [x]) W' ∧ SameBlk Kb X W') ∨ (Ending.returned v = .returned (.bool false) ∧ Behind (pre ++ [x]) W')) := fun c Y hk hx => by
      obtain ⟨hlY, hr, hl2, hd2⟩ := ends (some c) Y hk
      exact ⟨_, _, hr, .inr ⟨rfl, c, (hIx c).put _ hx (by omega) hlY rfl, hl2, hd2⟩⟩
    rintro e a3 Y hp
    cases e with
    | normal =>
      obtain ⟨hk, hs, hi3⟩ := hp
      obtain ⟨hlY, hr, hl2, hd2⟩ := ends none Y hk
      have e6 : ({ R with state := .ready, pending := none } : Loop) = R := by rw [hR]
      simp only [Option.isNone_none, if_true, e6] at hr hl2 hd2
      exact ⟨_, _, hr, .inl ⟨rfl, ⟨hI.put _ hi3 (by omega) hlY rfl, hl2, hd2⟩, fun i hi => by have h2 := hKb i hi; exact (World.putObj_heap_other (by omega)).trans ((hs i hi).trans (hbZ i hi))⟩⟩
    | ret => exact left .ret Y hp.1 hp.2
    | exit id => exact left (.exit id) Y hp.1 hp.2
    | goto t => exact left (.goto t) Y hp.1 hp.2
    | panic ch => exact hp.elim
    | outgrown => exact hp.elim
  · rintro e Y ⟨⟨v, rfl⟩, (⟨xs, hS, hi, hl, hd⟩ | ⟨pre, hSp, c, hx, hl, hd⟩)⟩
    · have e5 : R.state ≠ .busy := by rw [hR]; simp [R0]
      have e7 : R.pending = none := by rw [hR]
      have := run_endLoop (P := P) hl e5
      rw [e7] at this
      exact ⟨none, _, this, hdone _ xs _ (Nat.le_refl _) hS (hI.put _ hi (by omega) hl rfl) ((World.putObj_heap_other (by omega)).trans hd)⟩
    · exact ⟨some c, _, run_endLoop (P := P) hl (by simp), hstop _ c pre _ (Nat.le_refl _) hSp ((hIx c).put _ hx (by omega) hl rfl) ((World.putObj_heap_other (by omega)).trans hd)⟩
end Go.Proofs.YtmlbfepibfobaaaDoor.Hand
end

section
namespace Go.Proofs.YtmlbfepibfobaaaDoor.Hand
open Go.RowKit Go.Shelf Go.Proofs.YtmlbfepibfobaaaDoorW.PrintWords Go.Proofs.YtmlbfepibfobaaaDoorW.PrintLast Go.Proofs.YtmlbfepibfobaaaDoorW.PrintMore
set_option linter.unusedVariables false
set_option linter.unusedSimpArgs false
theorem cut_until (c : UInt8) : ∀ l : List UInt8, Lib.cut l [c] = match untilL c l with | some (n, r) => (n, r, true) | none => (l, [], false)
  | [] => by simp [Lib.cut, Lib.index, untilL]
  | b :: l => by
    have ih := cut_until c l
    have hge := Lib.index_ge l [c]
    unfold Lib.cut at ih ⊢
    rw [Lib.index]
    by_cases h : b = c
    · subst h
      have : List.isPrefixOf [b] (b :: l) = true := by simp [List.isPrefixOf]
      rw [if_pos this]
      simp [untilL]
    · have hp : List.isPrefixOf [c] (b :: l) = false := by simp [List.isPrefixOf]; exact fun e => h e.symm
      rw [hp]
      simp only [Bool.false_eq_true, if_false]
      by_cases hi : Lib.index l [c] = -1
      · rw [hi] at ih ⊢
        simp only [beq_self_eq_true, if_true] at ih ⊢
        rw [if_neg (by decide)] at ih
        rw [if_neg (by decide)]
        cases hu : untilL c l with
        | none => rw [untilL, if_neg h, hu]; rfl
        | some p => rw [hu] at ih; simp at ih
      · have hb : (Lib.index l [c] == -1) = false := beq_eq_false_iff_ne.2 hi
        rw [hb]
        simp only [Bool.false_eq_true, if_false]
        rw [if_pos (by omega)] at ih
        rw [if_pos (by omega)]
        cases hu : untilL c l with
        | none => rw [hu] at ih; simp at ih
        | some p =>
          rw [hu] at ih
          simp only [Prod.mk.injEq, and_true] at ih
          rw [untilL, if_neg h, hu]
          have e : (Lib.index l [c] + 1).toNat = (Lib.index l [c]).toNat + 1 := by omega
          simp only [Option.map_some, Prod.mk.injEq, and_true]
          rw [e, List.take_succ_cons, ih.1]
          refine ⟨rfl, ?_⟩
          rw [show (Lib.index l [c]).toNat + 1 + [c].length = ((Lib.index l [c]).toNat + [c].length) + 1 from by omega, List.drop_succ_cons]
          exact ih.2
def segsF : Nat → List UInt8 → List (ByteArray × Bool)
  | 0, _ => []
  | f + 1, l => if l = [] then [] else match untilL 10 l with
    | some (x, r) => (lb x, true) :: segsF f r
    | none => [(lb l, false)]
def goodS (x : ByteArray × Bool) : Bool := x.2 && (bl x.1).all seen
def runS : List ByteArray → List (ByteArray × Bool) → List ByteArray × Int × Int
  | out, [] => (out, 0, 0)
  | out, x :: r => if goodS x = true then runS (out ++ [x.1]) r else ([], 1, (out.length : Int) + 1)
theorem lin_seg (x : List UInt8) : ∀ (cur : List UInt8) (out : List (List UInt8)) (r : List UInt8), 10 ∉ x → lin cur out (x ++ 10 :: r) = if x.all seen = true then lin [] (out ++ [cur ++ x]) r else ([], 1, (out.length : Int) + 1) := by
  induction x with
  | nil => intro cur out r _; simp [lin]
  | cons b x ih =>
    intro cur out r h
    simp only [List.mem_cons, not_or] at h
    rw [List.cons_append, lin, if_neg (fun e => h.1 e.symm), List.all_cons]
    by_cases hb : seen b = true
    · rw [if_pos hb, ih _ _ _ h.2, hb, Bool.true_and]
      simp
    · rw [if_neg hb, if_neg]
      simp [hb]
theorem lin_last (x : List UInt8) : ∀ (cur : List UInt8) (out : List (List UInt8)), 10 ∉ x → (cur ≠ [] ∨ x ≠ []) → lin cur out x = ([], 1, (out.length : Int) + 1) := by
  induction x with
  | nil => intro cur out _ h; rw [lin, if_neg (by rcases h with h | h; exact h; exact absurd rfl h)]
  | cons b x ih =>
    intro cur out h _
    simp only [List.mem_cons, not_or] at h
    rw [lin, if_neg (fun e => h.1 e.symm)]
    by_cases hb : seen b = true
    · rw [if_pos hb, ih _ _ h.2 (.inl (by simp))]
    · rw [if_neg hb]
theorem run_segs : ∀ (f : Nat) (l : List UInt8) (out : List (List UInt8)), l.length ≤ f → runS (out.map lb) (segsF f l) = (((lin [] out l).1).map lb, (lin [] out l).2)
  | 0, l, out, h => by
    have : l = [] := List.length_eq_zero_iff.1 (by omega)
    subst this
    simp [segsF, runS, lin]
  | f + 1, l, out, h => by
    unfold segsF
    by_cases hl : l = []
    · subst hl; simp [runS, lin]
    · rw [if_neg hl]
      cases hu : untilL 10 l with
      | none =>
        have hn := (until_none l).1 hu
        rw [lin_last l [] out hn (.inr hl)]
        simp [runS, goodS]
      | some p =>
        obtain ⟨x, r⟩ := p
        obtain ⟨e, hx⟩ := until_some l x r hu
        have hr : r.length ≤ f := by rw [e] at h; simp at h; omega
        rw [e, lin_seg x [] out r hx]
        simp only [runS, goodS, bl_lb, Bool.true_and]
        by_cases ha : x.all seen = true
        · rw [if_pos ha, if_pos ha]
          have := run_segs f r (out ++ [x]) hr
          rw [List.map_append] at this
          exact this
        · rw [if_neg ha, if_neg ha]
          simp
def MaxL (w : World) : Prop := ∃ m, w.cell? ⟨0, 0, none⟩ = some (.int .i64 m)
end Go.Proofs.YtmlbfepibfobaaaDoor.Hand
end

section
namespace Go.Proofs.YtmlbfepibfobaaaDoor.Hand
open Go.RowKit Go.Shelf Go.Proofs.YtmlbfepibfobaaaDoorW.PrintWords Go.Proofs.YtmlbfepibfobaaaDoorW.PrintLast Go.Proofs.YtmlbfepibfobaaaDoorW.PrintMore
set_option linter.unusedVariables false
set_option linter.unusedSimpArgs false
attribute [local go_sem] Oper.semAt_some
abbrev encS (x : ByteArray × Bool) : Array Value := #[.string x.1, .bool x.2]
def leftB (b : Nat) (w : World) : Nat := match w.cell? ⟨b, 0, none⟩ with | some (.string r) => r.size | _ => 0
theorem leftB_eq {b : Nat} {w : World} {r : ByteArray} {t : TypeId} (h : Boxed w b t (.string r)) : leftB b w = r.size := by
  unfold leftB
  rw [h.cell]
def segOf (r : ByteArray) : ByteArray × Bool := (⟨(Lib.cut r.data.toList [10]).1.toArray⟩, (Lib.cut r.data.toList [10]).2.2)
def restOf (r : ByteArray) : ByteArray := ⟨(Lib.cut r.data.toList [10]).2.1.toArray⟩
theorem segs_step (r : ByteArray) (hr : r.size ≠ 0) (f : Nat) (hf : r.size ≤ f + 1) : segsF (f + 1) (bl r) = segOf r :: segsF f (bl (restOf r)) ∧ (restOf r).size ≤ f := by
  have hne : bl r ≠ [] := by intro e; apply hr; rw [← bl_len, e]; rfl
  unfold segOf restOf
  rw [segsF, if_neg hne, show r.data.toList = bl r from rfl, cut_until]
  cases hu : untilL 10 (bl r) with
  | none =>
    refine ⟨?_, Nat.zero_le _⟩
    cases f with
    | zero => rfl
    | succ f => simp only [segsF]; rfl
  | some p =>
    obtain ⟨x, q⟩ := p
    obtain ⟨e, _⟩ := until_some _ x q hu
    refine ⟨rfl, ?_⟩
    have := bl_len r
    rw [e] at this
    simp at this
    show q.length ≤ f
    omega
theorem max_same {K : Nat → Prop} {X Y : World} (h : MaxL X) (hs : SameBlk K X Y) (hk : K 0) : MaxL Y := by
  obtain ⟨m, hm⟩ := h
  refine ⟨m, ?_⟩
  have := hs _ hk
  unfold World.cell? at hm ⊢
  rw [this]
  exact hm
theorem max_below {w w' : World} (h : MaxL w) (hb : Below w.heap.size w w') : MaxL w' := by
  obtain ⟨m, hm⟩ := h
  exact ⟨m, pw_cell_below hb hm⟩
theorem MaxL.below {w w' : World} (h : MaxL w) (hb : Below w.heap.size w w') : MaxL w' := max_below h hb
theorem MaxL.drawn {w w' : World} (h : MaxL w) (hd : Drawn0 w w') : MaxL w' := max_below h hd.below
theorem max_set {w : World} {b : Nat} (h : MaxL w) (hb : b ≠ 0) (v : Value) : MaxL (w.setCell ⟨b, 0, none⟩ v) := by
  obtain ⟨m, hm⟩ := h
  refine ⟨m, ?_⟩
  rw [World.cell?_setCell_other]
  · exact hm
  · intro e; cases e; exact hb rfl
theorem grown_drewN (w : World) (n b : Nat) : w.grownBy (w.drewN n) (some b) := grown_of_below (pw_below_drewN (Below.refl _ w) n) _
set_option maxHeartbeats 8000000 in
set_option maxRecDepth 100000 in
theorem each_seq (n : Nat) (s : ByteArray) (b : Nat) (hs : s.size < 4294967281) :
    SeqBox Fence.wide n Tryd.prog 128 #[.pointer (some ⟨b, 0, none⟩)] encS b (s.size + 1) (fun i => i = b ∨ i = 0) (fun W => Boxed W b 9 (.string s) ∧ MaxL W)
      (fun xs => xs = segsF s.size (bl s)) (fun pre => pre <+: segsF s.size (bl s)) := fun l J Jx W hA hJ hJx hY h0 => by
  obtain ⟨hbox, hmax⟩ := hA
  have hb0 : b ≠ 0 := by
    rintro rfl
    obtain ⟨m, hm⟩ := hmax
    rw [hbox.cell] at hm
    cases hm
  have HB0 := Aside0.mk hb0
  have HM0 := Aside0.mk hmax
  have HS := Aside0.mk hs
  clear hs hb0 hmax
  refine callsIn_of_wp Tryd.func128 rfl trivial ?_ rfl
  simp only [Tryd.ntmps128, List.size_toArray, List.length_cons, List.length_nil, Nat.reduceAdd, Nat.reduceSub, Array.replicate_succ, Array.replicate_zero, List.push_toArray, List.append_toArray, List.nil_append, List.cons_append]
  gi_wp2
  gi_loopw [3] (fun _ wr => ∃ (pre : List (ByteArray × Bool)) (r : ByteArray) (f : Nat), J pre wr ∧ Aside0 (Boxed wr b 9 (.string r)) ∧ Aside0 (MaxL wr) ∧ Aside0 (segsF s.size (bl s) = pre ++ segsF f (bl r)) ∧ Aside0 (r.size ≤ f ∧ pre.length + f = s.size)) (fun _ wr => leftB b wr)
  case atStart => exact ⟨[], s, s.size, h0, ⟨hbox⟩, HM0, ⟨rfl⟩, ⟨Nat.le_refl _, by simp⟩⟩
  case round =>
    obtain ⟨pre, r, f, hJ0, HBx, HM, HSg, HF⟩ := hrel
    have hc := HBx.out.cell
    have hfr := HBx.out.frozen
    by_cases hr : r.size = 0
    · have hr1 : r.toList = [] := by rw [ByteArray.toList_eq]; exact List.length_eq_zero_iff.1 ((bl_len r).trans hr)
      have hr2 : r.toList.isEmpty = true := by rw [hr1]; rfl
      have HZ : Aside0 (segsF s.size (bl s) = pre) := ⟨by
        have e : bl r = [] := List.length_eq_zero_iff.1 ((bl_len r).trans hr)
        rw [HSg.out, e]
        cases f <;> simp [segsF]⟩
      clear hr
      gi_wp2
      go_end0
      exact ⟨⟨_, rfl⟩, .inl ⟨pre, HZ.out.symm, hJ0⟩⟩
    · have hr2 : r.toList.isEmpty = false := by
        rw [ByteArray.toList_eq]
        have := isEmpty_bl r
        rw [decide_eq_false hr] at this
        exact this
      have hr1 : ¬ r.toList = [] := fun e => by rw [e] at hr2; cases hr2
      have HR := Aside0.mk hr
      clear hr
      obtain ⟨m, hm⟩ := HM.out
      have HC := Aside0.mk (Tryd.strings_Cut r ⟨#[10]⟩ m wr (by have := HF.out; have := HS.out; omega) hm)
      clear hm
      obtain ⟨f, rfl⟩ : ∃ g, f = g + 1 := ⟨f - 1, by have := HF.out; have := HR.out; omega⟩
      have HT := Aside0.mk (segs_step r HR.out f (by have := HF.out; omega))
      gi_wp2_with fail
      refine ⟨trivial, (fun h => by cases h), ?_⟩
      refine (callsIn_wide.2 HC.out).mono ?_
      rintro e w1 ⟨rfl, n1, rfl⟩
      clear HC
      have hJ1 := hJ _ _ _ hJ0 (grown_drewN wr n1 b)
      have HM1 := Aside0.mk (max_below HM.out (pw_below_drewN (Below.refl _ wr) n1))
      have HB1 := Aside0.mk (show Boxed (wr.drewN n1) b 9 (.string r) from HBx.out)
      obtain ⟨fn, tmps, assign, body, hy, hR⟩ := hY pre (segOf r) _ hJ1 (by have := HF.out; omega)
      dsimp only [encS, segOf] at hy
      clear hc hfr
      gi_wp2
      refine ⟨(fun h => by cases h), ?_⟩
      refine hR.mono ?_
      rintro e W3 (⟨rfl, hJ3, hk3⟩ | ⟨rfl, hJx3⟩)
      · have hB3 : Boxed W3 b 9 (.string r) := (hk3 b (.inl rfl)).trans HB1.out
        have HM3 := Aside0.mk (max_same HM1.out hk3 (.inr rfl))
        have HB3 := Aside0.mk hB3
        have hc3 := hB3.cell
        have hf3 := hB3.frozen
        have hJ4 := hJ _ _ _ hJ3 (grownBy_setCell' W3 b (.string (restOf r)))
        have HB4 := Aside0.mk (hB3.set (.string (restOf r)))
        have HM4 := Aside0.mk (max_set HM3.out HB0.out (.string (restOf r)))
        clear hk3 hB3
        gi_wp2
        go_roundw
        case rel => exact ⟨pre ++ [segOf r], restOf r, f, hJ4, HB4, HM4, ⟨by rw [HSg.out, HT.out.1]; simp⟩, ⟨HT.out.2, by have := HF.out; simp; omega⟩⟩
        case measure =>
          have e1 := leftB_eq HB4.out
          have e2 := leftB_eq HBx.out
          have e3 : (restOf r).size < r.size := by
            have h1 := HR.out
            have := (segs_step r h1 (r.size - 1) (by omega)).2
            omega
          show leftB b _ < leftB b wr
          rw [e2]
          exact lt_of_eq_of_lt e1 e3
      · gi_wp2
        refine bodyPost_ret (results_none rfl _ _ _) rfl ?_
        exact ⟨⟨_, rfl⟩, .inr ⟨_, ⟨segsF f (bl (restOf r)), by rw [HSg.out, HT.out.1]; simp⟩, hJx3⟩⟩
end Go.Proofs.YtmlbfepibfobaaaDoor.Hand
end

section
namespace Go.Proofs.YtmlbfepibfobaaaDoor.Hand
open Go.RowKit Go.Shelf Go.Proofs.YtmlbfepibfobaaaDoorW.PrintWords Go.Proofs.YtmlbfepibfobaaaDoorW.PrintLast Go.Proofs.YtmlbfepibfobaaaDoorW.PrintMore
set_option linter.unusedVariables false
set_option linter.unusedSimpArgs false
attribute [local go_sem] Oper.semAt_some
set_option maxHeartbeats 2000000 in
theorem word_each (s : ByteArray) (w : World) :
    Calls Tryd.prog 101 #[.string s] w fun e w' => e = .returned (.func (.func 128) #[] #[.pointer (some ⟨w.heap.size, 0, none⟩)]) ∧ w' = w.alloc (.cells #[.string s] 9) := by
  have hmf : ∀ (fn : Fn) (first cap : Array Value) (w : World), (Instr.makeFunc fn first cap).run Tryd.prog w = .ok (.func fn first cap) w := fun _ _ _ _ => rfl
  go_enter Tryd.func101, Tryd.ntmps101
  go_wp2
  go_ret
  exact ⟨rfl, rfl⟩
theorem lines_info : (Tryd.prog.info? 9).map (fun i => (i.zero, i.size, i.bytes)) = some (some (.string ⟨#[]⟩), 1, 16) := by kernel_rfl
abbrev FltT : TypeId := 31
abbrev StrsT : TypeId := 57
def LinesI (w : World) (pre : List (ByteArray × Bool)) (W : World) : Prop :=
  (∀ x ∈ pre, goodS x = true) ∧ (∃ v, Boxed W (w.heap.size + 1 + 1) StrsT v ∧ W.ownsRow (w.heap.size + 4) 9 1 v pre.length (pre.map fun x => Value.string x.1)) ∧
  Boxed W w.heap.size StrsT (.slice none 0 0) ∧ W.heap[w.heap.size + 1]? = some (.cells #[.int .i64 0, .int .i64 0] FltT (0, 0)) ∧ Below w.heap.size w W ∧ w.heap.size + 4 ≤ W.heap.size
def LinesX (w : World) (c : Code) (pre : List (ByteArray × Bool)) (W : World) : Prop :=
  c = .ret ∧ ∃ q x, pre = q ++ [x] ∧ (∀ y ∈ q, goodS y = true) ∧ goodS x = false ∧ Boxed W w.heap.size StrsT (.slice none 0 0) ∧
    W.heap[w.heap.size + 1]? = some (.cells #[.int .i64 1, .int .i64 ((q.length : Int) + 1)] FltT (0, 0)) ∧ Below w.heap.size w W ∧ w.heap.size + 4 ≤ W.heap.size
theorem Boxed_alloc2 {W : World} {g : Nat} {cs : Array Value} {t : TypeId} {o o1 : Obj} (h : W.heap[g]? = some (.cells cs t (0, 0))) : ((W.alloc o).alloc o1).heap[g]? = some (.cells cs t (0, 0)) :=
  blk_grown (blk_grown h (World.grownBy_alloc W o none) (by simp)) (World.grownBy_alloc _ o1 none) (by simp)
theorem blk_stays {X Y : World} {row : Option Nat} {B b g : Nat} {cs : Array Value} {t : TypeId} (h : X.heap[g]? = some (.cells cs t (0, 0))) (hg : X.grownBy Y row)
    (hr : ∀ r, row = some r → r = b ∨ (B ≤ r ∧ ∃ o : Obj, X.heap[r]? = some o ∧ o.isCells = false)) (hne : g ≠ b) : Y.heap[g]? = some (.cells cs t (0, 0)) := by
  refine (hg.block g (Array.getElem?_eq_some_iff.1 h).1 fun e => ?_).trans h
  rcases hr g e.symm with h1 | ⟨_, o, ho, hc⟩
  · exact hne h1
  · rw [h] at ho; cases ho; cases hc
theorem row_stays {X Y : World} {row : Option Nat} {B b base : Nat} {e : TypeId} {v : Value} {k : Nat} {xs : List Value} (h : X.ownsRow base e 1 v k xs) (hg : X.grownBy Y row)
    (hr : ∀ r, row = some r → r = b ∨ (B ≤ r ∧ ∃ o : Obj, X.heap[r]? = some o ∧ o.isCells = false)) (hb : b < base) : Y.ownsRow base e 1 v k xs := by
  rcases h.2 with ⟨hv, _⟩ | ⟨g, cap, cur, hv, hbg, hh, _⟩
  · exact h.kept hg (.inl (by rw [hv]; rfl))
  · refine h.kept hg (.inr fun ev => ?_)
    have ev' : row = some g := by rw [← ev, hv]; rfl
    rcases hr g ev' with h1 | ⟨_, o, ho, hc⟩
    · omega
    · rw [hh] at ho; cases ho; cases hc
theorem linesI_holds (w : World) : HoldsAll (w.heap.size + 4) (w.heap.size + 3) (LinesI w) := fun pre X Y row ⟨h1, ⟨v, hv, hrow⟩, h2, h3, h4, h5⟩ hg hr =>
  ⟨h1, ⟨v, blk_stays hv hg hr (by omega), row_stays hrow hg hr (by omega)⟩, blk_stays h2 hg hr (by omega), blk_stays h3 hg hr (by omega),
    h4.grown hg h4.size (fun k e => by rcases hr k e with h | ⟨h, _⟩ <;> omega), Nat.le_trans h5 hg.size⟩
theorem linesX_holds (w : World) (c : Code) : HoldsAll (w.heap.size + 4) (w.heap.size + 3) (LinesX w c) := fun pre X Y row ⟨hc, q, x, h0, h1, hx, h2, h3, h4, h5⟩ hg hr =>
  ⟨hc, q, x, h0, h1, hx, blk_stays h2 hg hr (by omega), blk_stays h3 hg hr (by omega), h4.grown hg h4.size (fun k e => by rcases hr k e with h | ⟨h, _⟩ <;> omega), Nat.le_trans h5 hg.size⟩
theorem own_lower {W : World} {base base' : Nat} {e : TypeId} {size : Nat} {v : Value} {k : Nat} {xs : List Value} (h : W.ownsRow base e size v k xs) (hb : base' ≤ base) : W.ownsRow base' e size v k xs := by
  refine ⟨h.1, h.2.imp id ?_⟩
  rintro ⟨g, cap, cur, h1, h2, h3⟩
  exact ⟨g, cap, cur, h1, Nat.le_trans hb h2, h3⟩
theorem run_good : ∀ (l : List (ByteArray × Bool)) (out : List ByteArray), (∀ x ∈ l, goodS x = true) → runS out l = (out ++ l.map (·.1), 0, 0)
  | [], out, _ => by simp [runS]
  | x :: l, out, h => by
    rw [runS, if_pos (h x (by simp)), run_good l _ (fun y hy => h y (by simp [hy]))]
    simp
theorem run_bad : ∀ (q : List (ByteArray × Bool)) (x : ByteArray × Bool) (r : List (ByteArray × Bool)) (out : List ByteArray), (∀ y ∈ q, goodS y = true) → goodS x = false → runS out (q ++ x :: r) = ([], 1, (out.length : Int) + q.length + 1)
  | [], x, r, out, _, hx => by rw [List.nil_append, runS, hx]; simp
  | y :: q, x, r, out, h, hx => by
    rw [List.cons_append, runS, if_pos (h y (by simp)), run_bad q x r _ (fun z hz => h z (by simp [hz])) hx]
    simp
    omega
theorem linesX_both (w W : World) (pre : List (ByteArray × Bool)) (x : ByteArray × Bool) (h1 : ∀ y ∈ pre, goodS y = true) (hx : goodS x = false) (h2 : Boxed W w.heap.size StrsT (.slice none 0 0))
    (h3 : W.heap[w.heap.size + 1]? = some (.cells #[.int .i64 0, .int .i64 0] FltT (0, 0))) (h4 : Below w.heap.size w W) (h5 : w.heap.size + 4 ≤ W.heap.size) :
    (KeepsOthers W (((W.setCell ⟨w.heap.size, 0, none⟩ (.slice none 0 0)).setCell ⟨w.heap.size + 1, 0, none⟩ (.int .i64 1)).setCell ⟨w.heap.size + 1, 1, none⟩ (.int .i64 ((pre.length : Int) + 1))).drew ∧
      LinesX w .ret (pre ++ [x]) (((W.setCell ⟨w.heap.size, 0, none⟩ (.slice none 0 0)).setCell ⟨w.heap.size + 1, 0, none⟩ (.int .i64 1)).setCell ⟨w.heap.size + 1, 1, none⟩ (.int .i64 ((pre.length : Int) + 1))).drew) ∧
    (KeepsOthers W (((W.setCell ⟨w.heap.size + 1, 0, none⟩ (.int .i64 1)).setCell ⟨w.heap.size + 1, 1, none⟩ (.int .i64 ((pre.length : Int) + 1))).setCell ⟨w.heap.size, 0, none⟩ (.slice none 0 0)).drew ∧
      LinesX w .ret (pre ++ [x]) (((W.setCell ⟨w.heap.size + 1, 0, none⟩ (.int .i64 1)).setCell ⟨w.heap.size + 1, 1, none⟩ (.int .i64 ((pre.length : Int) + 1))).setCell ⟨w.heap.size, 0, none⟩ (.slice none 0 0)).drew) := by
  have s1 := fun (X : World) (hX : X.heap[w.heap.size + 1]? = some (.cells #[.int .i64 0, .int .i64 0] FltT (0, 0))) => blk_set (blk_set hX 0 (.int .i64 1)) 1 (.int .i64 ((pre.length : Int) + 1))
  simp only [List.setIfInBounds_toArray, List.set_cons_zero, List.set_cons_succ] at s1
  refine ⟨⟨(((KeepsOthers.setCell _ _ _).trans (KeepsOthers.setCell _ _ _)).trans (KeepsOthers.setCell _ _ _)).trans (KeepsOthers.drew _), rfl, pre, x, rfl, h1, hx, ?_, ?_, ?_, ?_⟩,
    ⟨(((KeepsOthers.setCell _ _ _).trans (KeepsOthers.setCell _ _ _)).trans (KeepsOthers.setCell _ _ _)).trans (KeepsOthers.drew _), rfl, pre, x, rfl, h1, hx, ?_, ?_, ?_, ?_⟩⟩
  · have := blk_far (blk_far (h2.set (.slice none 0 0)) (p := ⟨w.heap.size + 1, 0, none⟩) (by simp) (.int .i64 1)) (p := ⟨w.heap.size + 1, 1, none⟩) (by simp) (.int .i64 ((pre.length : Int) + 1))
    exact this
  · exact s1 _ (blk_far h3 (p := ⟨w.heap.size, 0, none⟩) (by simp) _)
  · exact below_drew (((h4.setCell (p := ⟨w.heap.size, 0, none⟩) (Nat.le_refl _) _).setCell (p := ⟨w.heap.size + 1, 0, none⟩) (by simp) _).setCell (p := ⟨w.heap.size + 1, 1, none⟩) (by simp) _)
  · simpa using h5
  · have h6 := blk_far (blk_far h2 (p := ⟨w.heap.size + 1, 0, none⟩) (by simp) (.int .i64 1)) (p := ⟨w.heap.size + 1, 1, none⟩) (by simp) (.int .i64 ((pre.length : Int) + 1))
    exact Boxed.set (.slice none 0 0) h6
  · exact blk_far (s1 _ h3) (p := ⟨w.heap.size, 0, none⟩) (by simp) _
  · exact below_drew (((h4.setCell (p := ⟨w.heap.size + 1, 0, none⟩) (by simp) _).setCell (p := ⟨w.heap.size + 1, 1, none⟩) (by simp) _).setCell (p := ⟨w.heap.size, 0, none⟩) (Nat.le_refl _) _)
  · simpa using h5
theorem lines_end (w W : World) (D : Nat) (e x : Int) (v : Value) (xs : List ByteArray) (hD : w.heap.size + 4 ≤ D) (hK : W.heap[D]? = some (.deferred (some []))) (h2 : Boxed W w.heap.size StrsT v)
    (h3 : W.heap[w.heap.size + 1]? = some (.cells #[.int .i64 e, .int .i64 x] FltT (0, 0))) (h4 : Below w.heap.size w W) (hrow : W.ownsRow (w.heap.size + 4) 9 1 v xs.length (xs.map Value.string)) :
    ((W.putObj D (.deferred none)).cell? ⟨w.heap.size, 0, none⟩ = some v ∧ (W.putObj D (.deferred none)).cell? ⟨w.heap.size + 1, 0, none⟩ = some (.int .i64 e) ∧ (W.putObj D (.deferred none)).cell? ⟨w.heap.size + 1, 1, none⟩ = some (.int .i64 x)) ∧
    Kd.R Kd.string 9 (W.putObj D (.deferred none)) w.heap.size (fun _ => True) v xs ∧ Below w.heap.size w (W.putObj D (.deferred none)) := by
  have hk : ∀ r, some D = some r → ∃ o : Obj, W.heap[r]? = some o ∧ o.isCells = false := fun r e => by cases e; exact ⟨_, hK, rfl⟩
  have hc3 := blk_cell h3 0
  have hc4 := blk_cell h3 1
  simp only [List.getElem?_toArray, List.getElem?_cons_zero, List.getElem?_cons_succ] at hc3 hc4
  refine ⟨⟨cell_kept h2.cell (grownBy_putObj' _ D _) hk, cell_kept hc3 (grownBy_putObj' _ D _) hk, cell_kept hc4 (grownBy_putObj' _ D _) hk⟩, Kd.R_of_own ?_ (fun _ _ => trivial), ?_⟩
  · exact own_lower (ownsRow_putObj hrow _ hK rfl) (by omega)
  · exact h4.trans (belowK_b (w := w) (Nat.le_refl _) W D _ _ (by omega) hK rfl rfl)
theorem linesI_next (w W w1 : World) (pre : List (ByteArray × Bool)) (line : ByteArray) (v v' : Value) (o : Obj) (hlen : (0 : Nat) < w.heap.size) (h1 : ∀ y ∈ pre, goodS y = true) (hx : goodS (line, true) = true)
    (hv : Boxed W (w.heap.size + 1 + 1) StrsT v) (hrow : W.ownsRow (w.heap.size + 4) 9 1 v pre.length (pre.map fun x => Value.string x.1)) (h2 : Boxed W w.heap.size StrsT (.slice none 0 0))
    (h3 : W.heap[w.heap.size + 1]? = some (.cells #[.int .i64 0, .int .i64 0] FltT (0, 0))) (h4 : Below w.heap.size w W) (h5 : w.heap.size + 4 ≤ W.heap.size)
    (hown : w1.ownsRow (w.heap.size + 4) 9 1 v' (pre.length + 1) ((pre.map fun x => Value.string x.1) ++ [.string line])) (hgrow : (W.alloc o).grownBy w1 v.ownBlock) :
    Boxed w1 (w.heap.size + 1 + 1) StrsT v ∧ KeepsOthers W (w1.setCell ⟨w.heap.size + 1 + 1, 0, none⟩ v') ∧ SameBlk (fun i => i = w.heap.size + 1 + 1 + 1 ∨ i = 0) W (w1.setCell ⟨w.heap.size + 1 + 1, 0, none⟩ v') ∧
      LinesI w (pre ++ [(line, true)]) (w1.setCell ⟨w.heap.size + 1 + 1, 0, none⟩ v') := by
  obtain ⟨a1, a2, a3, a4, a5⟩ := hv.appended (n₀ := w.heap.size) (by decide) (own_lower hrow (by omega : w.heap.size ≤ w.heap.size + 4)) (by omega) (by omega) (own_lower hown (by omega : w.heap.size ≤ w.heap.size + 4)) hgrow
  have hr4 := hown.kept (grownBy_setCell' w1 (w.heap.size + 1 + 1) v') (.inr (a1.not_row (by decide) hown).symm)
  have ho := hrow.alloc o
  have hbase : ∀ k, v.ownBlock = some k → w.heap.size + 4 ≤ k := fun k hk => (hrow.lt k hk).1
  refine ⟨a1, a4, ?_, ?_, ⟨v', a2, by simpa using hr4⟩, ?_, ?_, h4.trans a5, ?_⟩
  · have go : ∀ i, i < w.heap.size + 4 → i ≠ w.heap.size + 1 + 1 → (w1.setCell ⟨w.heap.size + 1 + 1, 0, none⟩ v').heap[i]? = W.heap[i]? := fun i hi hne => by
      rw [Below.heap_setCell w1 ⟨w.heap.size + 1 + 1, 0, none⟩ v' i hne]
      exact (hgrow.block i (by simp; omega) (fun e => by have := hbase i e.symm; omega)).trans (Below.heap_alloc W o i (by omega))
    rintro i (rfl | rfl)
    · exact go _ (by omega) (by omega)
    · exact go _ (by omega) (by omega)
  · intro y hy
    simp only [List.mem_append, List.mem_singleton] at hy
    rcases hy with hy | hy
    · exact h1 y hy
    · rw [hy]; exact hx
  · have := (h2.alloc o).kept hgrow ((h2.alloc o).not_row (by decide) ho)
    exact blk_far this (p := ⟨w.heap.size + 1 + 1, 0, none⟩) (by simp; omega) _
  · have h3' := blk_grown h3 (World.grownBy_alloc W o none) (by simp)
    have := blk_grown h3' hgrow (own_ne ho h3' (by decide))
    exact blk_far this (p := ⟨w.heap.size + 1 + 1, 0, none⟩) (by simp) _
  · have := hgrow.size
    simp at this ⊢
    omega
def word_Lines.f (s : ByteArray) : Option (List ByteArray × Int × Int) := if s.size ≤ 9223372036854775807 then some ((linesL (bl s)).1.map lb, (linesL (bl s)).2) else none
set_option maxHeartbeats 8000000 in
set_option maxRecDepth 100000 in
theorem word_Lines.calls (a0 : ByteArray) (r1 : List ByteArray) (r2 r3 : Int) (w : World) (hGMaxL : MaxL w) (h : word_Lines.f a0 = some (r1, r2, r3)) :
    Calls Tryd.prog 40 #[.string a0] w fun e w' => ∃ v0_ : Value, e = .returned (.tuple #[v0_, .agg #[.int .i64 r2, .int .i64 r3]]) ∧ Kd.R Kd.string 9 w' w.heap.size (fun _ => True) v0_ r1 ∧ Below w.heap.size w w' := by
  refine (callsIn_wide (n := 9)).1 ?_
  unfold word_Lines.f at h
  split at h
  · rename_i hs
    have h := Option.some.inj h
    unfold linesL at h
    rw [bl_len] at h
    obtain ⟨i0, hi, hz0, hz1, hz2⟩ := info_parts lines_info
    by_cases hbig : a0.size > 65536
    · rw [if_pos hbig] at h
      simp only [List.map_nil, Prod.mk.injEq] at h
      obtain ⟨rfl, rfl, rfl⟩ := h
      have hd : decide (65536 < a0.size) = true := decide_eq_true hbig
      have hd2 : decide ((65536 : Int) < (a0.size : Int)) = true := decide_eq_true (by omega)
      clear hbig
      refine callsIn_of_wp_marks Tryd.func40 rfl trivial ?_ rfl
      simp only [Tryd.ntmps40, List.size_toArray, List.length_cons, List.length_nil, Nat.reduceAdd, Nat.reduceSub, Array.replicate_succ, Array.replicate_zero, List.push_toArray, List.append_toArray, List.nil_append, List.cons_append]
      gi_wp2
      refine ⟨.tuple #[.slice none 0 0, .agg #[.int .i64 3, .int .i64 0]], by simp [results, Tryd.results40, go_sem], .slice none 0 0, rfl, Kd.R_nil _ _ _ _ _, below_alloc (below_alloc (Below.refl _ _) _) _⟩
    · rw [if_neg hbig] at h
      have hd : decide (65536 < a0.size) = false := decide_eq_false hbig
      have hd2 : decide ((65536 : Int) < (a0.size : Int)) = false := decide_eq_false (by omega)
      have HRun : Aside0 (runS [] (segsF a0.size (bl a0)) = (r1, r2, r3)) := ⟨by
        have e1 := congrArg Prod.fst h
        have e2 := congrArg Prod.snd h
        simp only at e1 e2
        rw [← e1, ← e2]
        exact run_segs a0.size (bl a0) [] (by rw [bl_len]; omega)⟩
      have hsz : a0.size ≤ 65536 := by omega
      clear h hbig hs
      refine callsIn_of_wp_marks Tryd.func40 rfl trivial ?_ rfl
      simp only [Tryd.ntmps40, List.size_toArray, List.length_cons, List.length_nil, Nat.reduceAdd, Nat.reduceSub, Array.replicate_succ, Array.replicate_zero, List.push_toArray, List.append_toArray, List.nil_append, List.cons_append]
      gi_wp2_with (refine ⟨trivial, ?_⟩; refine (callsIn_wide.2 (word_each a0 _)).mono ?_; rintro e w' ⟨rfl, rfl⟩)
      have b0 := Boxed.new w StrsT (.slice none 0 0)
      have b1 := World.alloc_heap_new (w.alloc (.cells #[.slice none 0 0] StrsT)) (.cells #[.int .i64 0, .int .i64 0] FltT)
      have b2 := Boxed.new ((w.alloc (.cells #[.slice none 0 0] StrsT)).alloc (.cells #[.int .i64 0, .int .i64 0] FltT)) StrsT (.slice none 0 0)
      have b3 := Boxed.new (((w.alloc (.cells #[.slice none 0 0] StrsT)).alloc (.cells #[.int .i64 0, .int .i64 0] FltT)).alloc (.cells #[.slice none 0 0] StrsT)) 9 (.string a0)
      rw [World.size_alloc] at b1
      rw [World.size_alloc, World.size_alloc] at b2
      rw [World.size_alloc, World.size_alloc, World.size_alloc] at b3
      obtain ⟨W0, hW0⟩ : ∃ W0, (((w.alloc (.cells #[.slice none 0 0] StrsT)).alloc (.cells #[.int .i64 0, .int .i64 0] FltT)).alloc (.cells #[.slice none 0 0] StrsT)).alloc (.cells #[.string a0] 9) = W0 := ⟨_, rfl⟩
      have hB0 : Below w.heap.size w W0 := hW0 ▸ below_alloc (below_alloc (below_alloc (below_alloc (Below.refl _ _) _) _) _) _
      have hz : W0.heap.size = w.heap.size + 4 := by rw [← hW0]; simp
      have hm0 : MaxL W0 := max_below hGMaxL hB0
      have hI0 : LinesI w [] W0 := ⟨by simp, ⟨.slice none 0 0, hW0 ▸ b2.alloc _, World.ownsRow_nil _ _ _ _⟩, hW0 ▸ ((b0.alloc _).alloc _).alloc _, hW0 ▸ (Boxed_alloc2 b1), hB0, by omega⟩
      have hb3 : Boxed W0 (w.heap.size + 1 + 1 + 1) 9 (.string a0) := hW0 ▸ b3
      have hlen : (0 : Nat) < w.heap.size := by
        obtain ⟨m, hm⟩ := hGMaxL
        exact World.block_lt_of_cell? w _ hm
      rw [hW0]
      clear b0 b1 b2 b3 hW0
      refine range_box rfl (by decide) (gf := 128) (lb := #[.pointer (some ⟨w.heap.size + 1 + 1 + 1, 0, none⟩)]) rfl trivial (enters_of Tryd.func128 (by kernel_rfl) rfl) (fun _ => rfl) (b := w.heap.size + 1 + 1 + 1) (by omega)
        (by rintro i (rfl | rfl) <;> omega) (each_seq 8 a0 (w.heap.size + 1 + 1 + 1) (by omega)) (fun W hW => ⟨(hW.block _ (by omega)).trans hb3, max_below hm0 hW⟩)
        (LinesI w) (LinesX w) (hz ▸ linesI_holds w) (fun c => hz ▸ linesX_holds w c) hI0
        (fun x => { tmps := #[.string a0, undef, .pointer (some ⟨w.heap.size, 0, none⟩), .pointer (some ⟨w.heap.size + 1, 0, none⟩), .pointer (some ⟨w.heap.size + 1 + 1, 0, none⟩), .string x.1, .bool x.2, .string a0, .int .i64 a0.size, .bool false, undef, .string a0, .func (.func 128) #[] #[.pointer (some ⟨w.heap.size + 1 + 1 + 1, 0, none⟩)], .string x.1, .bool x.2, undef, undef, undef, undef, undef, undef, undef, undef, undef, undef, undef, undef, undef, undef, undef, undef, undef], defers := [] }) ?assign ?body ?done ?stop
      case assign =>
        intro l x W K hK
        gi_wp2
        exact hK
      case body =>
        rintro l pre ⟨line, ended⟩ W hI hN
        have HI := Aside0.mk hI
        obtain ⟨h1, ⟨v, hv, hrow⟩, h2, h3, h4, h5⟩ := hI
        obtain ⟨A, cp, rfl⟩ := own_slice hrow
        have hc := hv.cell
        have hfr := hv.frozen
        have hc2 := h2.cell
        have hf2 := h2.frozen
        have hc3 := blk_cell h3 0
        have hc4 := blk_cell h3 1
        have hf3 := blk_frozen h3 0
        have hf4 := blk_frozen h3 1
        simp only [List.getElem?_toArray, List.getElem?_cons_zero, List.getElem?_cons_succ] at hc3 hc4
        cases ended with
        | false =>
          gi_wp2
          have hboth := linesX_both w W pre (line, false) h1 rfl h2 h3 h4 h5
          obtain ⟨hXA, hXB⟩ := hboth
          have HXA := Aside0.mk hXA
          have HXB := Aside0.mk hXB
          have hw := IntWalk.i64_in ((pre.length : Int) + 1) (by omega)
          clear hXA hXB h1 h2 h3 hv hrow
          refine ⟨trivial, ?_⟩
          gi_wp2
          gi_region
          all_goals gi_wp2
          all_goals first | exact HXA.out | exact HXB.out
        | true =>
          clear hc hfr hc2 hf2 hf3 hf4 hc3 hc4 h1 h2 h3 h4 h5 hv hrow
          obtain ⟨bb, hbb⟩ : ∃ bb, bb = (bl line).all seen := ⟨_, rfl⟩
          have HP := Aside0.mk (word_plain.calls line bb W (by unfold word_plain.f; rw [hbb]))
          have HBB := Aside0.mk hbb
          clear hbb
          gi_wp2_with fail
          refine ⟨trivial, ?_⟩
          refine (CallsIn.inRound l (callsIn_wide.2 HP.out)).mono ?_
          rintro e W1 ⟨rfl, hb⟩
          have hI1 := linesI_holds w pre W W1 none HI.out (grown_of_below hb none) (fun r e => by cases e)
          have hK1 := KeepsOthers.of_grownBy (grown_of_below hb none) (fun j o e => by cases e)
          have hS1 : SameBlk (fun i => i = w.heap.size + 1 + 1 + 1 ∨ i = 0) W W1 := by
            have := HI.out.2.2.2.2.2
            rintro i (rfl | rfl)
            · exact hb.block _ (by omega)
            · exact hb.block _ (by omega)
          have HK1 := Aside0.mk hK1
          have HS1 := Aside0.mk hS1
          clear HI HP hb hK1 hS1
          obtain ⟨h1, ⟨v, hv, hrow⟩, h2, h3, h4, h5⟩ := hI1
          obtain ⟨A, cp, rfl⟩ := own_slice hrow
          have hc := hv.cell
          have hfr := hv.frozen
          have hc2 := h2.cell
          have hf2 := h2.frozen
          have hc3 := blk_cell h3 0
          have hc4 := blk_cell h3 1
          have hf3 := blk_frozen h3 0
          have hf4 := blk_frozen h3 1
          simp only [List.getElem?_toArray, List.getElem?_cons_zero, List.getElem?_cons_succ] at hc3 hc4
          cases bb with
          | false =>
            have hboth := linesX_both w W1 pre (line, true) h1 (by unfold goodS; rw [← HBB.out]; rfl) h2 h3 h4 h5
            obtain ⟨⟨hXA1, hXA2⟩, ⟨hXB1, hXB2⟩⟩ := hboth
            have HXA := Aside0.mk (And.intro (HK1.out.trans hXA1) hXA2)
            have HXB := Aside0.mk (And.intro (HK1.out.trans hXB1) hXB2)
            have hw := IntWalk.i64_in ((pre.length : Int) + 1) (by omega)
            clear hXA1 hXB1 hXA2 hXB2 h1 h2 h3 hv hrow
            gi_wp2
            gi_region
            all_goals gi_wp2
            all_goals first | exact HXA.out | exact HXB.out
          | true =>
            have hgd : goodS (line, true) = true := by unfold goodS; rw [← HBB.out]; rfl
            have HN := Aside0.mk (fun w1 v' o => linesI_next w W1 w1 pre line _ v' o hlen h1 hgd hv hrow h2 h3 h4 h5)
            have HR := Aside0.mk hrow
            have hlen1 : pre.length ≤ 65537 := by omega
            clear hc2 hf2 hc3 hc4 hf3 hf4 h1 h2 h3 h4 hv hrow hgd hfr
            gi_wp2_with (gi_at_builtin; refine wpListIn_append_own _ rfl _ _ StrsT rfl (w.heap.size + 4) 9 i0 (.string ⟨#[]⟩) 1 16 Tryd.underlying57 hi hz0 hz1 hz2 rfl (by decide) _ _ _ rfl (HR.out.alloc _) ⟨W1.heap.size, 0, none⟩ 1 1 [.string line] rfl rfl (cell_one_new _ _ _) (by simp [Value.oneCell']) (by unfold maxLen; omega) (by omega) (by simp; omega) ?_; intro v' w1 hown' hgrow _; obtain ⟨g', cap', rfl⟩ := ownsRow_succ hown'; obtain ⟨hv1, hk2, hs2, hi2⟩ := HN.out w1 _ _ hown' hgrow; have hc1 := hv1.cell; have hf1 := hv1.frozen; have HF := Aside0.mk (And.intro (HK1.out.trans hk2) (And.intro (fun i hi => (hs2 i hi).trans (HS1.out i hi)) hi2)); clear hk2 hs2 hi2 hown' hgrow hv1)
            exact HF.out
      case done =>
        rintro D xs W hD rfl ⟨h1, ⟨v, hv, hrow⟩, h2, h3, h4, h5⟩ hK
        have hr := HRun.out
        rw [run_good _ [] h1] at hr
        simp only [List.nil_append, Prod.mk.injEq] at hr
        obtain ⟨rfl, rfl, rfl⟩ := hr
        obtain ⟨A, cp, rfl⟩ := own_slice hrow
        have hc := hv.cell
        have hc2 := h2.cell
        have hf2 := h2.frozen
        have hc3 := blk_cell h3 0
        have hc4 := blk_cell h3 1
        have hf3 := blk_frozen h3 0
        have hf4 := blk_frozen h3 1
        simp only [List.getElem?_toArray, List.getElem?_cons_zero, List.getElem?_cons_succ] at hc3 hc4
        have HE := Aside0.mk (lines_end w (((W.setCell ⟨w.heap.size, 0, none⟩ (.slice A (segsF a0.size (bl a0)).length cp)).setCell ⟨w.heap.size + 1, 0, none⟩ (.int .i64 0)).setCell ⟨w.heap.size + 1, 1, none⟩ (.int .i64 0)) D 0 0 (.slice A (segsF a0.size (bl a0)).length cp) ((segsF a0.size (bl a0)).map (·.1)) (by omega)
          ((((KeepsOthers.setCell _ _ _).trans (KeepsOthers.setCell _ _ _)).trans (KeepsOthers.setCell _ _ _)).same D _ hK rfl)
          (blk_far (blk_far (h2.set _) (p := ⟨w.heap.size + 1, 0, none⟩) (by simp) _) (p := ⟨w.heap.size + 1, 1, none⟩) (by simp) _)
          (by
            have := blk_set (blk_set (blk_far h3 (p := ⟨w.heap.size, 0, none⟩) (by simp) (.slice A (segsF a0.size (bl a0)).length cp)) 0 (.int .i64 0)) 1 (.int .i64 0)
            simpa only [List.setIfInBounds_toArray, List.set_cons_zero, List.set_cons_succ] using this)
          (((h4.setCell (p := ⟨w.heap.size, 0, none⟩) (Nat.le_refl _) _).setCell (p := ⟨w.heap.size + 1, 0, none⟩) (by simp) _).setCell (p := ⟨w.heap.size + 1, 1, none⟩) (by simp) _)
          (by
            have n1 := h2.not_row (by decide) hrow
            have n2 := own_ne hrow h3 (by decide)
            have := own_setCell (own_setCell (own_setCell hrow (p := ⟨w.heap.size, 0, none⟩) n1 (.slice A (segsF a0.size (bl a0)).length cp)) (p := ⟨w.heap.size + 1, 0, none⟩) n2 (.int .i64 0)) (p := ⟨w.heap.size + 1, 1, none⟩) n2 (.int .i64 0)
            rw [List.length_map, List.map_map]
            exact this))
        have HK2 := Aside0.mk ((((KeepsOthers.setCell W ⟨w.heap.size, 0, none⟩ (.slice A (segsF a0.size (bl a0)).length cp)).trans (KeepsOthers.setCell _ ⟨w.heap.size + 1, 0, none⟩ (.int .i64 0))).trans (KeepsOthers.setCell _ ⟨w.heap.size + 1, 1, none⟩ (.int .i64 0))).same D _ hK rfl)
        clear h1 h2 h3 h4 h5 hv hrow
        gi_wp2
        refine ⟨by simp, .inl ⟨_, _, rfl, run_takeDeferred HK2.out, ?_⟩⟩
        obtain ⟨⟨q0, q1, q2⟩, q3, q4⟩ := HE.out
        refine ⟨.tuple #[.slice A (segsF a0.size (bl a0)).length cp, .agg #[.int .i64 0, .int .i64 0]], ?_, _, rfl, q3, q4⟩
        simp [results, Tryd.results40, go_sem, q0, q1, q2]
      case stop =>
        rintro D c pre W hD ⟨rest, hSp⟩ ⟨rfl, q, x, h0, h1, hx, h2, h3, h4, h5⟩ hK
        have hr := HRun.out
        rw [← hSp, h0, List.append_assoc, List.singleton_append, run_bad q x rest [] h1 hx] at hr
        simp only [List.length_nil, Prod.mk.injEq] at hr
        obtain ⟨rfl, rfl, rfl⟩ := hr
        obtain ⟨⟨q0, q1, q2⟩, q3, q4⟩ := lines_end w W D 1 ((q.length : Int) + 1) (.slice none 0 0) [] (by omega) hK h2 h3 h4 (World.ownsRow_nil _ _ _ _)
        gi_wp2
        refine ⟨by simp, .inl ⟨_, _, rfl, run_takeDeferred hK, ?_⟩⟩
        refine ⟨.tuple #[.slice none 0 0, .agg #[.int .i64 1, .int .i64 ((q.length : Int) + 1)]], ?_, _, by simp, q3, q4⟩
        simp [results, Tryd.results40, go_sem, q0, q1, q2]
  · cases h
end Go.Proofs.YtmlbfepibfobaaaDoor.Hand
end

section
namespace Go.Proofs.YtmlbfepibfobaaaDoor.Hand
open Go.RowKit Go.Shelf
def bldRen : Go.Shelf.Ren := ⟨fun | 166 => 93 | 167 => 94 | 240 => 122 | 276 => 140 | n => n, fun | 0 => 0 | 3 => 3 | 4 => 4 | 5 => 5 | 9 => 9 | 20 => 20 | 37 => 22 | 70 => 100 | 72 => 102 | 75 => 104 | 80 => 40 | 164 => 154 | n => n, fun n => n⟩
theorem bldLays166 : Go.Proofs.Lays.n166 Tryd.prog bldRen := {
  mixed := by kernel_rfl
  f166 := Tryd.func93.trans (congrArg some (by kernel_rfl))
  f240 := Tryd.func122.trans (congrArg some (by kernel_rfl))
  f276 := Tryd.func140.trans (congrArg some (by kernel_rfl))
  t0 := Tryd.underlying0
  a0 := Tryd.isAgg0
  z0 := Tryd.sizeOf0
  v0 := Tryd.zeroValue0
  t3 := Tryd.underlying3
  a3 := Tryd.isAgg3
  z3 := Tryd.sizeOf3
  v3 := Tryd.zeroValue3
  t4 := Tryd.underlying4
  a4 := Tryd.isAgg4
  z4 := Tryd.sizeOf4
  v4 := Tryd.zeroValue4
  t9 := Tryd.underlying9
  a9 := Tryd.isAgg9
  z9 := Tryd.sizeOf9
  v9 := Tryd.zeroValue9
  t20 := Tryd.underlying20
  a20 := Tryd.isAgg20
  z20 := Tryd.sizeOf20
  v20 := Tryd.zeroValue20
  t37 := Tryd.underlying22
  a37 := Tryd.isAgg22
  z37 := Tryd.sizeOf22
  v37 := Tryd.zeroValue22
  t70 := Tryd.underlying100
  a70 := Tryd.isAgg100
  z70 := Tryd.sizeOf100
  v70 := Tryd.zeroValue100
  t72 := Tryd.underlying102
  a72 := Tryd.isAgg102
  z72 := Tryd.sizeOf102
  v72 := Tryd.zeroValue102
  t75 := Tryd.underlying104
  a75 := Tryd.isAgg104
  z75 := Tryd.sizeOf104
  v75 := Tryd.zeroValue104
  t164 := Tryd.underlying154
  a164 := Tryd.isAgg154
  z164 := Tryd.sizeOf154
  v164 := Tryd.zeroValue154 }
theorem bldLays167 : Go.Proofs.Lays.n167 Tryd.prog bldRen := {
  mixed := by kernel_rfl
  f167 := Tryd.func94.trans (congrArg some (by kernel_rfl))
  f240 := Tryd.func122.trans (congrArg some (by kernel_rfl))
  f276 := Tryd.func140.trans (congrArg some (by kernel_rfl))
  t0 := Tryd.underlying0
  a0 := Tryd.isAgg0
  z0 := Tryd.sizeOf0
  v0 := Tryd.zeroValue0
  t4 := Tryd.underlying4
  a4 := Tryd.isAgg4
  z4 := Tryd.sizeOf4
  v4 := Tryd.zeroValue4
  t5 := Tryd.underlying5
  a5 := Tryd.isAgg5
  z5 := Tryd.sizeOf5
  v5 := Tryd.zeroValue5
  t9 := Tryd.underlying9
  a9 := Tryd.isAgg9
  z9 := Tryd.sizeOf9
  v9 := Tryd.zeroValue9
  t20 := Tryd.underlying20
  a20 := Tryd.isAgg20
  z20 := Tryd.sizeOf20
  v20 := Tryd.zeroValue20
  t37 := Tryd.underlying22
  a37 := Tryd.isAgg22
  z37 := Tryd.sizeOf22
  v37 := Tryd.zeroValue22
  t70 := Tryd.underlying100
  a70 := Tryd.isAgg100
  z70 := Tryd.sizeOf100
  v70 := Tryd.zeroValue100
  t72 := Tryd.underlying102
  a72 := Tryd.isAgg102
  z72 := Tryd.sizeOf102
  v72 := Tryd.zeroValue102
  t75 := Tryd.underlying104
  a75 := Tryd.isAgg104
  z75 := Tryd.sizeOf104
  v75 := Tryd.zeroValue104
  t164 := Tryd.underlying154
  a164 := Tryd.isAgg154
  z164 := Tryd.sizeOf154
  v164 := Tryd.zeroValue154 }
theorem bldExtra : Builder.Extra Tryd.prog bldRen := {
  sizeBuilder := by kernel_rfl
  liesBuilder := by kernel_rfl
  t5 := Tryd.underlying5
  a5 := Tryd.isAgg5
  z5 := Tryd.sizeOf5
  v5 := Tryd.zeroValue5
  infoByte := by kernel_rfl
  cellsByte := by kernel_rfl
  sizeByte := by kernel_rfl
  neB5 := by decide }
end Go.Proofs.YtmlbfepibfobaaaDoor.Hand
end

section
namespace Go.Proofs.YtmlbfepibfobaaaDoor.Hand
open Go.RowKit Go.Shelf Go.Proofs.YtmlbfepibfobaaaDoorW.PrintWords Go.Proofs.YtmlbfepibfobaaaDoorW.PrintLast Go.Proofs.YtmlbfepibfobaaaDoorW.PrintMore
set_option linter.unusedVariables false
set_option linter.unusedSimpArgs false
theorem blank_until {x : List UInt8} (h : (32 : UInt8) ∉ x) : blank x = false := by
  unfold blank
  rw [List.any_eq_false]
  intro b hb
  rw [beq_iff_eq]
  rintro rfl
  exact h hb
theorem fields_until (l : List UInt8) : fieldsL l = match untilL 32 l with | some (x, r) => x :: fieldsL r | none => [l] := by
  cases hu : untilL 32 l with
  | none =>
    have h := (until_none l).1 hu
    unfold fieldsL
    rw [fld_last l [] (blank_until h)]
    rfl
  | some p =>
    obtain ⟨x, r⟩ := p
    obtain ⟨e, h⟩ := until_some l x r hu
    unfold fieldsL
    rw [e, fld_word x [] r (blank_until h)]
    rfl
theorem index_until (c : UInt8) (l : List UInt8) : (untilL c l = none ∧ Lib.index l [c] = -1) ∨ ∃ x r, untilL c l = some (x, r) ∧ Lib.index l [c] = (x.length : Int) ∧ l.take x.length = x ∧ l.drop (x.length + 1) = r := by
  have hc := cut_until c l
  have hge := Lib.index_ge l [c]
  have hroom := Lib.index_room l [c]
  unfold Lib.cut at hc
  cases hu : untilL c l with
  | none =>
    left
    rw [hu] at hc
    split at hc
    · simp at hc
    · exact ⟨rfl, by omega⟩
  | some p =>
    obtain ⟨x, r⟩ := p
    right
    rw [hu] at hc
    split at hc
    · rename_i hi
      simp only [Prod.mk.injEq, and_true] at hc
      have hr := hroom hi
      have hl : x.length = (Lib.index l [c]).toNat := by
        rw [← hc.1, List.length_take]
        simp at hr
        omega
      refine ⟨x, r, rfl, by omega, ?_, ?_⟩
      · rw [hl]; exact hc.1
      · rw [hl]; exact hc.2
    · simp at hc
theorem split_fields : ∀ (f : Nat) (l : List UInt8), l.length < f → Lib.splitK [32] 0 (Lib.countFrom [32] f l) l = fieldsL l ∧ (fieldsL l).length = Lib.countFrom [32] f l + 1
  | 0, l, h => by omega
  | f + 1, l, h => by
    rw [Lib.countFrom, fields_until]
    rcases index_until 32 l with ⟨h1, h2⟩ | ⟨x, r, h1, h2, h3, h4⟩
    · rw [h2, h1]
      simp [Lib.splitK]
    · have hx : (Lib.index l [32] == -1) = false := beq_eq_false_iff_ne.2 (by omega)
      have e : (Lib.index l [32]).toNat = x.length := by omega
      have hl := (until_some l x r h1).1
      have hr : r.length < f := by rw [hl] at h; simp at h; omega
      obtain ⟨i1, i2⟩ := split_fields f r hr
      rw [hx, h1]
      simp only [Bool.false_eq_true, if_false]
      have e2 : [(32 : UInt8)].length = 1 := rfl
      rw [e, e2, h4, Nat.add_comm 1, Lib.splitK, hx]
      simp only [Bool.false_eq_true, if_false]
      rw [e, Nat.add_zero, e2, h3, h4, i1]
      exact ⟨rfl, by rw [List.length_cons, i2]⟩
theorem join_line : ∀ l : List (List UInt8), Lib.join l [32] = lineL l
  | [] => rfl
  | [x] => by rw [Lib.join_one]; rfl
  | x :: y :: l => by
    have ih := join_line (y :: l)
    rw [Lib.join_cons] at ih ⊢
    rw [lineL_cons _ _ (by simp), ← ih]
    simp [Lib.joinTail]
end Go.Proofs.YtmlbfepibfobaaaDoor.Hand
end

section
namespace Go.Proofs.YtmlbfepibfobaaaDoor.Hand
open Go.RowKit Go.Shelf Go.Proofs.YtmlbfepibfobaaaDoorW.PrintWords Go.Proofs.YtmlbfepibfobaaaDoorW.PrintLast Go.Proofs.YtmlbfepibfobaaaDoorW.PrintMore
set_option linter.unusedVariables false
set_option linter.unusedSimpArgs false
theorem str_cells (s : ByteArray) : Lib.strCells s = Lib.byteCells (bl s) := rfl
theorem byteCells_append (a b : List UInt8) : Lib.byteCells (a ++ b) = Lib.byteCells a ++ Lib.byteCells b := by simp [Lib.byteCells]
theorem byteCells_len (a : List UInt8) : (Lib.byteCells a).length = a.length := by simp [Lib.byteCells]
theorem textL_take (l : List ByteArray) (i : Nat) (h : i < l.length) : textL ((l.map bl).take (i + 1)) = textL ((l.map bl).take i) ++ bl (rdOf ByteArray.empty l (i : Int)) ++ [10] := by
  have hr : rdOf ByteArray.empty l (i : Int) = l[i] := by simp [rdOf, List.getElem?_eq_getElem h]
  rw [List.take_succ_eq_append_getElem (by simpa using h), textL_append, hr]
  simp [textL]
theorem textL_take_le (l : List ByteArray) (i : Nat) : (textL ((l.map bl).take i)).length ≤ (textL (l.map bl)).length := by
  have := textL_append ((l.map bl).take i) ((l.map bl).drop i)
  rw [List.take_append_drop] at this
  rw [this]
  simp
def word_Text.f (l0 : List ByteArray) : Option ByteArray := if (textL (l0.map bl)).length ≤ 140737488355000 then some (lb (textL (l0.map bl))) else none
abbrev BldT : TypeId := 102
set_option maxHeartbeats 8000000 in
set_option maxRecDepth 100000 in
theorem word_Text.calls (A0 : Option Addr) (c0 : Nat) (l0 : List ByteArray) (r : ByteArray) (w : World) (hr0 : Kd.C Kd.string w A0 l0.length l0) (hc0 : l0.length ≤ c0) (h : word_Text.f l0 = some r) :
    Calls Tryd.prog 37 #[.slice A0 l0.length c0] w fun e w' => e = .returned (.string r) ∧ Below w.heap.size w w' := by
  unfold word_Text.f at h
  split at h
  · rename_i hg
    obtain rfl := Option.some.inj h
    clear h
    have HG := Aside0.mk hg
    have HR0 := Aside0.mk hr0
    have HC0 := Aside0.mk hc0
    have HM := Aside0.mk (Kd.C_max hr0)
    clear hr0 hc0 hg
    go_enter Tryd.func37, Tryd.ntmps37
    go_wp2
    go_loopw [8] (fun v8 wr => ∃ i : Nat, v8 = .int .i64 (i : Int) ∧ i ≤ l0.length ∧ Aside0 (Lib.IsBuilder BldT 5 w.heap.size w.heap.size (Lib.byteCells (textL ((l0.map bl).take i))) wr) ∧ Aside0 (Below w.heap.size w wr)) (fun v8 _ => l0.length - (intOf v8).toNat)
    case atStart =>
      exact ⟨0, rfl, Nat.zero_le _, ⟨.inl ⟨Nat.le_refl _, .slice none 0 0, blk_new _ _, World.ownsRow_nil _ _ _ _, by simp [Value.ownBlock]⟩⟩, ⟨below_alloc (Below.refl _ _) _⟩⟩
    case round =>
      obtain ⟨i, rfl, hi, HBd, HB⟩ := hrel
      by_cases hlt : i < l0.length
      · have hm := HM.out
        have p1 : (0 ≤ (i : Int)) = True := eq_true (by omega)
        have q1 : ((i : Int) < (l0.length : Int)) = True := eq_true (by omega)
        have d1 : decide ((i : Int) < (l0.length : Int)) = true := decide_eq_true (by omega)
        have d2 : decide (i < l0.length) = true := decide_eq_true hlt
        have d3 : decide (0 ≤ (i : Int)) = true := decide_eq_true (by omega)
        obtain ⟨ad, rfl, hcell⟩ := Kd.at_string (Kd.C_below HR0.out HB.out) (i : Int) (by omega) (by omega)
        have HT := Aside0.mk (textL_take l0 i hlt)
        have hle := textL_take_le l0 (i + 1)
        rw [HT.out] at hle
        simp only [List.length_append, List.length_singleton, bl_len] at hle
        obtain ⟨s, hs⟩ : ∃ s, s = rdOf ByteArray.empty l0 (i : Int) := ⟨_, rfl⟩
        rw [← hs, Int.toNat_natCast] at hcell
        rw [← hs] at hle HT
        clear hs
        have hw : IntKind.i64.wrap ((i : Int) + 1) = ((i + 1 : Nat) : Int) := by rw [IntKind.wrap_i64]; omega
        have HW1 := Aside0.mk (Any.Builder_WriteString bldLays166 bldExtra w.heap.size w.heap.size _ s wr HBd.out (by rw [byteCells_len]; have := HG.out; omega) HB.out.size)
        go_wp2_with fail
        refine HW1.out.mono ?_
        rintro e w1 ⟨rfl, hb1, hbl1⟩
        have HB1 := Aside0.mk (HB.out.trans hbl1)
        rw [str_cells, ← byteCells_append] at hb1
        have HW2 := Aside0.mk (Any.Builder_WriteByte bldLays167 bldExtra w.heap.size w.heap.size _ 10 w1 (.inr hb1) (by rw [byteCells_len]; simp only [List.length_append, bl_len]; have := HG.out; omega) HB1.out.size)
        clear hb1 hbl1 HW1 hcell
        go_wp2_with fail
        refine HW2.out.mono ?_
        rintro e w2 ⟨rfl, hb2, hbl2⟩
        have HB2 := Aside0.mk (HB1.out.trans hbl2)
        have HBd2 : Aside0 (Lib.IsBuilder BldT 5 w.heap.size w.heap.size (Lib.byteCells (textL ((l0.map bl).take (i + 1)))) w2) := ⟨.inr (by rw [HT.out, byteCells_append]; exact hb2)⟩
        clear hb2 hbl2 HW2 hle
        go_wp2
        go_roundw
        case rel => exact ⟨i + 1, by go_num, hlt, HBd2, HB2⟩
        case measure => simp [intOf]; omega
      · have hil : i = l0.length := by omega
        subst hil
        have d1 : decide ((l0.length : Int) < (l0.length : Int)) = false := decide_eq_false (by omega)
        have hfull : (l0.map bl).take l0.length = l0.map bl := List.take_of_length_le (by simp)
        have HS := Aside0.mk (Tryd.Builder_String_any w.heap.size w.heap.size (textL (l0.map bl)) wr (by rw [← hfull]; exact HBd.out) HB.out.size)
        clear hfull hlt
        go_wp2_with fail
        refine HS.out.mono ?_
        rintro e w1 ⟨rfl, hb1⟩
        have HB1 := Aside0.mk (HB.out.trans hb1)
        clear hb1
        go_wp2
        go_ret
        exact ⟨rfl, HB1.out⟩
  · cases h
end Go.Proofs.YtmlbfepibfobaaaDoor.Hand
end

section
namespace Go.Proofs.YtmlbfepibfobaaaDoor.Hand
open Go.RowKit Go.Shelf Go.Proofs.YtmlbfepibfobaaaDoorW.PrintWords Go.Proofs.YtmlbfepibfobaaaDoorW.PrintLast Go.Proofs.YtmlbfepibfobaaaDoorW.PrintMore
set_option linter.unusedVariables false
set_option linter.unusedSimpArgs false
def word_Fields.f (s : ByteArray) : Option (List ByteArray) := if s.size < 4294967281 then some ((fieldsL (bl s)).map lb) else none
theorem splitB_fields (s : ByteArray) : (Lib.splitB ⟨#[32]⟩ 0 (Lib.countB s ⟨#[32]⟩) s) = (fieldsL (bl s)).map lb ∧ (fieldsL (bl s)).length = Lib.countB s ⟨#[32]⟩ + 1 := by
  have hc : Lib.countB s ⟨#[32]⟩ = Lib.countFrom [32] ((bl s).length + 1) (bl s) := rfl
  obtain ⟨h1, h2⟩ := split_fields ((bl s).length + 1) (bl s) (by omega)
  rw [hc]
  refine ⟨?_, h2⟩
  have hd := Lib.splitB_data ⟨#[32]⟩ 0 (Lib.countFrom [32] ((bl s).length + 1) (bl s)) s
  have e : (⟨#[32]⟩ : ByteArray).data.toList = [32] := rfl
  rw [e, show s.data.toList = bl s from rfl, h1] at hd
  rw [← hd, List.map_map]
  conv => lhs; rw [← List.map_id (Lib.splitB _ _ _ _)]
  exact List.map_congr_left fun x _ => (lb_bl x).symm
theorem full_row {W : World} {base e g n : Nat} {xs : List Value} (h : W.heap[g]? = some (.cells xs.toArray e (0, 0))) (hn : xs.length = n) (hb : base ≤ g) (hm : n ≤ maxLen) : W.ownsRow base e 1 (.slice (some ⟨g, 0, none⟩) n n) n xs :=
  ⟨by omega, .inr ⟨g, n, xs.toArray, rfl, hb, h, Nat.le_refl _, hm, by simp [hn], by simp [← hn]⟩⟩
theorem fld_len : ∀ (s cur : List UInt8), (fld cur s).length ≤ s.length + 1
  | [], _ => by simp [fld]
  | b :: s, cur => by
    unfold fld
    split
    · have := fld_len s []; simp; omega
    · have := fld_len s (cur ++ [b]); simp; omega
set_option maxHeartbeats 8000000 in
set_option maxRecDepth 100000 in
theorem word_Fields.calls (a0 : ByteArray) (r : List ByteArray) (w : World) (hGMaxL : MaxL w) (h : word_Fields.f a0 = some r) :
    Calls Tryd.prog 43 #[.string a0] w fun e w' => ∃ v0_ : Value, e = .returned (v0_) ∧ Kd.R Kd.string 9 w' w.heap.size (fun _ => True) v0_ r ∧ Below w.heap.size w w' := by
  unfold word_Fields.f at h
  split at h
  · rename_i hs
    obtain rfl := Option.some.inj h
    clear h
    obtain ⟨m, hm⟩ := hGMaxL
    have HS := Aside0.mk (Tryd.strings_Split a0 ⟨#[32]⟩ m w hs hm (by decide))
    obtain ⟨h1, h2⟩ := splitB_fields a0
    have hlen : (fieldsL (bl a0)).length ≤ a0.size + 1 := by have := fld_len (bl a0) []; rw [bl_len] at this; exact this
    rw [h1, ← h2] at HS
    have HF := Aside0.mk (full_row (base := w.heap.size) (e := 9) (n := (fieldsL (bl a0)).length) (xs := ((fieldsL (bl a0)).map lb).map Value.string) (blk_new w (.cells (((fieldsL (bl a0)).map lb).map Value.string).toArray 9)) (by simp) (Nat.le_refl _) (by unfold maxLen; omega))
    clear hm h1 h2 hs hlen
    go_enter Tryd.func43, Tryd.ntmps43
    go_wp2_with fail
    refine HS.out.mono ?_
    rintro e w1 ⟨rfl, rfl⟩
    go_wp2
    go_ret
    refine ⟨_, rfl, Kd.R_of_own ?_ (fun _ _ => trivial), below_alloc (Below.refl _ _) _⟩
    have hf := HF.out
    rw [List.map_map] at hf
    have e1 : encs Value.string (List.map lb (fieldsL (bl a0))) = List.map (Value.string ∘ lb) (fieldsL (bl a0)) := by simp [encs]
    rw [List.length_map, e1]
    exact hf
  · cases h
def word_Line.f (l0 : List ByteArray) : Option ByteArray := if (lineL (l0.map bl)).length ≤ 140737488355328 ∧ l0.length ≤ 140737488355328 then some (lb (lineL (l0.map bl))) else none
set_option maxHeartbeats 8000000 in
set_option maxRecDepth 100000 in
theorem word_Line.calls (A0 : Option Addr) (c0 : Nat) (l0 : List ByteArray) (r : ByteArray) (w : World) (hr0 : Kd.C Kd.string w A0 l0.length l0) (hc0 : l0.length ≤ c0) (h : word_Line.f l0 = some r) :
    Calls Tryd.prog 45 #[.slice A0 l0.length c0] w fun e w' => e = .returned (.string r) ∧ Below w.heap.size w w' := by
  unfold word_Line.f at h
  split at h
  · rename_i hg
    obtain rfl := Option.some.inj h
    clear h
    have HS : Aside0 (Calls Tryd.prog 104 #[.slice A0 l0.length c0, .string ⟨#[32]⟩] w fun e w' => e = .returned (.string (lb (lineL (l0.map bl)))) ∧ Below w.heap.size w w') := ⟨by
      have hj : Lib.join (l0.map (·.data.toList)) (⟨#[32]⟩ : ByteArray).data.toList = lineL (l0.map bl) := join_line _
      cases hl : l0 with
      | nil =>
        have := Tryd.strings_Join_none A0 c0 ⟨#[32]⟩ w
        refine this.mono ?_
        rintro e w' ⟨rfl, rfl⟩
        exact ⟨rfl, Below.refl _ _⟩
      | cons x xs =>
        rw [← hl]
        have hpos : 0 < l0.length := by rw [hl]; simp
        obtain ⟨ad, rfl, h0⟩ := Kd.at_string hr0 0 (by omega) (by omega)
        have hsp : ad = ⟨ad.block, ad.off, none⟩ := by
          have e0 : ad.add (0 : Int).toNat = ad := rfl
          rw [e0] at h0
          cases ad with
          | mk b o sp =>
            cases sp with
            | none => rfl
            | some z => unfold World.cell? at h0; split at h0 <;> simp at h0
        have hb : ad.block < w.heap.size := by
          have e0 : ad.add (0 : Int).toNat = ad := rfl
          rw [e0] at h0
          exact World.block_lt_of_cell? w _ h0
        have := Tryd.strings_Join ad.block ad.off c0 l0 ⟨#[32]⟩ w (fun j x hj => by
          have hlt : j < l0.length := (List.getElem?_eq_some_iff.1 hj).1
          obtain ⟨ad2, e2, h2⟩ := Kd.at_string hr0 (j : Int) (by omega) (by omega)
          cases e2
          rw [Int.toNat_natCast] at h2
          have e3 : rdOf ByteArray.empty l0 (j : Int) = x := by simp [rdOf, hj]
          rw [e3, hsp] at h2
          have e4 : (⟨ad.block, ad.off, none⟩ : Addr).add j = ⟨ad.block, ad.off + j, none⟩ := by cases j <;> rfl
          rw [← e4]
          exact h2) hb hg.2 hc0 (by rw [hj]; exact hg.1)
        rw [hj, ← hsp] at this
        exact this⟩
    clear hr0 hc0 hg
    go_enter Tryd.func45, Tryd.ntmps45
    go_wp2_with fail
    refine HS.out.mono ?_
    rintro e w1 ⟨rfl, hb⟩
    go_wp2
    go_ret
    exact ⟨rfl, hb⟩
  · cases h
end Go.Proofs.YtmlbfepibfobaaaDoor.Hand
end

section
namespace Go.Proofs.YtmlbfepibfobaaaDoor.Hand
open Go.RowKit Go.Proofs.YtmlbfepibfobaaaDoorW.PrintWords Go.Proofs.YtmlbfepibfobaaaDoorW.PrintLast Go.Proofs.YtmlbfepibfobaaaDoorW.PrintMore
set_option linter.unusedVariables false
set_option linter.unusedSimpArgs false
theorem bl_extract (s : ByteArray) (a b : Nat) : bl (s.extract a b) = ((bl s).take b).drop a := by
  unfold bl
  rw [ByteArray.data_extract]
  simp only [Array.toList_extract, List.extract_eq_drop_take']
theorem cat_lb (a b : List UInt8) : lb a ++ lb b = lb (a ++ b) := by
  apply bl_inj
  rw [bl_append]
  simp
theorem cut_ext (s : ByteArray) (a b : Nat) (h : a ≤ b) : s.extract a b = lb (((bl s).drop a).take (b - a)) := by
  apply bl_inj
  rw [bl_extract, bl_lb, List.drop_take]
theorem cur_next (s : ByteArray) (a i : Nat) (b : UInt8) (h : a ≤ i) (hi : (bl s)[i]? = some b) : ((bl s).drop a).take (i - a) ++ [b] = ((bl s).drop a).take (i + 1 - a) := by
  have e : i + 1 - a = (i - a) + 1 := by omega
  rw [e, List.take_add_one, List.getElem?_drop, show a + (i - a) = i from by omega, hi]
  rfl
def mapL (t : List (List UInt8) × Int × Int) : List ByteArray × Int × Int := (t.1.map lb, t.2)
theorem seen_bt {b : UInt8} {x : Int} (h : x = (b.toNat : Int)) : seen b = (!decide (x < 32) && !decide (x > 126)) := by
  unfold seen
  rw [Bool.eq_iff_iff]
  simp
  omega
theorem u8_is {b c : UInt8} {x : Int} (h : x = (b.toNat : Int)) : x = (c.toNat : Int) ↔ b = c := by
  constructor
  · intro e
    apply UInt8.toNat.inj
    omega
  · rintro rfl; exact h
theorem u8_is10 {b : UInt8} {x : Int} (h : x = (b.toNat : Int)) : x = 10 ↔ b = 10 := u8_is (c := 10) h
theorem u8_is32 {b : UInt8} {x : Int} (h : x = (b.toNat : Int)) : x = 32 ↔ b = 32 := u8_is (c := 32) h
end Go.Proofs.YtmlbfepibfobaaaDoor.Hand
end

section
namespace Go.Proofs.YtmlbfepibfobaaaDoor.Q14
open Go.RowKit Go.Proofs.YtmlbfepibfobaaaDoorW.PrintWords Go.Proofs.YtmlbfepibfobaaaDoorW.PrintLast Go.Proofs.YtmlbfepibfobaaaDoorW.PrintMore Go.Proofs.YtmlbfepibfobaaaDoor.Hand
attribute [local go_sem] max2_int min2_int max_two min_two max_three min_three max_four min_four   -- for this text's walks alone
set_option linter.unusedVariables false
set_option linter.unusedSimpArgs false
def errW : Option Int → Value
  | none => .nilIface
  | some c => .iface 0 (.int .i64 c)
theorem errW_none : errW none = .nilIface := rfl
theorem errW_some (c : Int) : errW (some c) = .iface 0 (.int .i64 c) := rfl
end Go.Proofs.YtmlbfepibfobaaaDoor.Q14
end

section
namespace Go.Proofs.YtmlbfepibfobaaaDoor.Q14
open Go.RowKit Go.Proofs.YtmlbfepibfobaaaDoorW.PrintWords Go.Proofs.YtmlbfepibfobaaaDoorW.PrintLast Go.Proofs.YtmlbfepibfobaaaDoorW.PrintMore Go.Proofs.YtmlbfepibfobaaaDoor.Hand
attribute [local go_sem] max2_int min2_int max_two min_two max_three min_three max_four min_four   -- for this text's walks alone
set_option linter.unusedVariables false
set_option linter.unusedSimpArgs false
theorem eqA66 (d : Nat) (w : World) (x0 y0 : Bool) (x1 y1 : Bool) (x2 y2 : ByteArray) (x3 y3 : ByteArray) (x4 y4 : ByteArray) :
    (Op.equalIn (d + 2) 66 (.agg #[.bool x0, .bool x1, .string x2, .string x3, .string x4]) (.agg #[.bool y0, .bool y1, .string y2, .string y3, .string y4])).run Tryd.prog w = .ok (x0 == y0 && (x1 == y1 && (x2.toList == y2.toList && (x3.toList == y3.toList && (x4.toList == y4.toList))))) w := by
  refine eqA_of Tryd.underlying66 (by kernel_rfl) ?_
  refine eqf_cons (by rfl) (by go_simp; rfl) (by go_simp; rfl) (by go_simp) ?_
  refine eqf_cons (by rfl) (by go_simp; rfl) (by go_simp; rfl) (by go_simp) ?_
  refine eqf_cons (by rfl) (by go_simp; rfl) (by go_simp; rfl) (by go_simp) ?_
  refine eqf_cons (by rfl) (by go_simp; rfl) (by go_simp; rfl) (by go_simp) ?_
  exact eqf_last (by rfl) (by go_simp; rfl) (by go_simp; rfl) (by go_simp)
end Go.Proofs.YtmlbfepibfobaaaDoor.Q14
end

section
namespace Go.Proofs.YtmlbfepibfobaaaDoor.Q14
open Go.RowKit Go.Proofs.YtmlbfepibfobaaaDoorW.PrintWords Go.Proofs.YtmlbfepibfobaaaDoorW.PrintLast Go.Proofs.YtmlbfepibfobaaaDoorW.PrintMore Go.Proofs.YtmlbfepibfobaaaDoor.Hand
attribute [local go_sem] max2_int min2_int max_two min_two max_three min_three max_four min_four   -- for this text's walks alone
set_option linter.unusedVariables false
set_option linter.unusedSimpArgs false
attribute [local go_sem high] eqA66
def glob_Right.l0 : Nat → ByteArray → Int → Int → Option (Bool)
  | 0, _, _, _ => none
  | k + 1, x0, x5, x6 => if x6 < x5 then (if 0 ≤ x6 then (if x6 < (x0.size : Int) then (if (bt x0 x6) ≤ 32 then (some false) else (if (bt x0 x6) > 126 then (some false) else (glob_Right.l0 k x0 x5 (wrap64 (x6 + 1))))) else (none)) else (none)) else (if x0.toList = ([] : List UInt8) then (some false) else (some (decide ((x0.size : Int) ≤ 64))))
def glob_Right.f (k : Nat) (a0 : ByteArray) : Option (Bool) := glob_Right.l0 k a0 (a0.size : Int) 0
theorem glob_Right.mono_l : ∀ k, (∀ y0 y1 y2, LeO (glob_Right.l0 k y0 y1 y2) (glob_Right.l0 (k + 1) y0 y1 y2))
  | 0 => fun _ _ _ r h => by simp [glob_Right.l0] at h
  | k + 1 => by
    have ih0 := glob_Right.mono_l k
    · intro y0 y1 y2
      unfold glob_Right.l0
      repeat' first
      | (with_reducible exact ih0 _ _ _)
      | (with_reducible exact LeO.refl _)
      | (with_reducible exact LeO.none _)
      | (with_reducible refine LeO.ite ?_ ?_)
      | (with_reducible refine LeO.bind ?_ (fun _ => ?_))
      | exact ih0 _ _ _
      | exact LeO.none _
      | refine LeO.ite ?_ ?_
      | refine LeO.bind ?_ (fun _ => ?_)
theorem glob_Right.mono : ∀ a0 k, LeO (glob_Right.f k a0) (glob_Right.f (k + 1) a0) := by
  intro a0 k
  have ih0 := glob_Right.mono_l k
  unfold glob_Right.f
  repeat' first
      | (with_reducible exact ih0 _ _ _)
      | (with_reducible exact LeO.refl _)
      | (with_reducible exact LeO.none _)
      | (with_reducible refine LeO.ite ?_ ?_)
      | (with_reducible refine LeO.bind ?_ (fun _ => ?_))
      | exact ih0 _ _ _
      | exact LeO.none _
      | refine LeO.ite ?_ ?_
      | refine LeO.bind ?_ (fun _ => ?_)
set_option maxHeartbeats 8000000 in
set_option maxRecDepth 100000 in
theorem glob_Right.calls (k : Nat) (a0 : ByteArray) (r : Bool) (w : World) (h : glob_Right.f k a0 = some r) :
    Calls Tryd.prog 67 #[.string a0] w fun e w' => e = .returned (.bool r) ∧ Drawn0 w w' := by
  have H : (glob_Right.l0 k a0 (a0.size : Int) 0) = some r := h
  clear h
  have H' := Aside0.mk H
  clear H
  go_enter Tryd.func67, Tryd.ntmps67
  go_wp2
  go_loopg [6] k (fun kq v6 w' => ∃ (x6_1 : Int), v6 = .int .i64 x6_1 ∧ Aside0 (glob_Right.l0 kq a0 (a0.size : Int) x6_1 = some r) ∧ Aside0 (kq ≤ k) ∧ Drawn0 w w')
  case atStart => exact ⟨(0), (by first | rfl | (simp; done) | (simp [*]; done)), H', ⟨Nat.le_refl _⟩, by repeat (first | exact Drawn0.refl _ | apply Drawn0.step)⟩
  case round =>
    clear H'
    obtain ⟨x6_1, rfl, HA, HK1, ⟨m1, rfl⟩⟩ := hrel
    cases gk with
    | zero => exact absurd HA.out (by simp [glob_Right.l0])
    | succ k1 =>
      have H := HA.out
      clear HA
      simp only [glob_Right.l0] at H
      by_cases c2 : x6_1 < (a0.size : Int)
      · rw [if_pos c2] at H
        have c2b0 : decide (x6_1 < (a0.size : Int)) = true := decide_eq_true c2
        clear c2
        by_cases c3 : 0 ≤ x6_1
        · rw [if_pos c3] at H
          have c3b0 : decide (0 ≤ x6_1) = true := decide_eq_true c3
          clear c3
          by_cases c4 : x6_1 < (a0.size : Int)
          · rw [if_pos c4] at H
            have c4b0 : decide (x6_1 < (a0.size : Int)) = true := decide_eq_true c4
            clear c4
            by_cases c6 : (bt a0 x6_1) ≤ 32
            · rw [if_pos c6] at H
              have c6b0 : decide ((bt a0 x6_1) ≤ 32) = true := decide_eq_true c6
              clear c6
              obtain rfl := Option.some.inj H
              have p5 : 0 ≤ (x6_1 : Int) := of_decide_eq_true (by first | (with_reducible assumption) | assumption)
              have q5 : x6_1 < (a0.size : Int) := of_decide_eq_true (by first | (with_reducible assumption) | assumption)
              have hx5 := bt_at a0 x6_1
              replace p5 := eq_true p5
              replace q5 := eq_true q5
              go_wp2
              go_ret
              exact ⟨by first | rfl | (simp; done) | (simp [*]; done), by repeat (first | exact Drawn0.refl _ | apply Drawn0.step)⟩
            · rw [if_neg c6] at H
              have c6b0 : decide ((bt a0 x6_1) ≤ 32) = false := decide_eq_false c6
              clear c6
              by_cases c8 : (bt a0 x6_1) > 126
              · rw [if_pos c8] at H
                have c8b0 : decide (126 < (bt a0 x6_1)) = true := decide_eq_true c8
                clear c8
                obtain rfl := Option.some.inj H
                have p5 : 0 ≤ (x6_1 : Int) := of_decide_eq_true (by first | (with_reducible assumption) | assumption)
                have q5 : x6_1 < (a0.size : Int) := of_decide_eq_true (by first | (with_reducible assumption) | assumption)
                have hx5 := bt_at a0 x6_1
                replace p5 := eq_true p5
                replace q5 := eq_true q5
                have p7 : 0 ≤ (x6_1 : Int) := of_decide_eq_true (by first | (with_reducible assumption) | assumption)
                have q7 : x6_1 < (a0.size : Int) := of_decide_eq_true (by first | (with_reducible assumption) | assumption)
                have hx7 := bt_at a0 x6_1
                replace p7 := eq_true p7
                replace q7 := eq_true q7
                go_wp2
                go_ret
                exact ⟨by first | rfl | (simp; done) | (simp [*]; done), by repeat (first | exact Drawn0.refl _ | apply Drawn0.step)⟩
              · rw [if_neg c8] at H
                have c8b0 : decide (126 < (bt a0 x6_1)) = false := decide_eq_false c8
                clear c8
                have H' := Aside0.mk H
                clear H
                have p5 : 0 ≤ (x6_1 : Int) := of_decide_eq_true (by first | (with_reducible assumption) | assumption)
                have q5 : x6_1 < (a0.size : Int) := of_decide_eq_true (by first | (with_reducible assumption) | assumption)
                have hx5 := bt_at a0 x6_1
                replace p5 := eq_true p5
                replace q5 := eq_true q5
                have p7 : 0 ≤ (x6_1 : Int) := of_decide_eq_true (by first | (with_reducible assumption) | assumption)
                have q7 : x6_1 < (a0.size : Int) := of_decide_eq_true (by first | (with_reducible assumption) | assumption)
                have hx7 := bt_at a0 x6_1
                replace p7 := eq_true p7
                replace q7 := eq_true q7
                go_wp2
                go_roundg k1
                case measure => have := HK1.out; omega
                case rel => exact ⟨(wrap64 (x6_1 + 1)), (by first | rfl | (simp; done) | (simp [*]; done)), H', ⟨by have := HK1.out; omega⟩, by repeat (first | exact Drawn0.refl _ | apply Drawn0.step)⟩
          · rw [if_neg c4] at H
            exact absurd H (by simp)
        · rw [if_neg c3] at H
          exact absurd H (by simp)
      · rw [if_neg c2] at H
        have c2b0 : decide (x6_1 < (a0.size : Int)) = false := decide_eq_false c2
        clear c2
        by_cases c9 : a0.toList = ([] : List UInt8)
        · rw [if_pos c9] at H
          have c9b0 : (a0.toList == ([] : List UInt8)) = true := beq_iff_eq.mpr c9
          have c9b1 : (a0.toList != ([] : List UInt8)) = false := bne_eq_false_iff_eq.mpr c9
          clear c9
          obtain rfl := Option.some.inj H
          go_wp2
          go_ret
          exact ⟨by first | rfl | (simp; done) | (simp [*]; done), by repeat (first | exact Drawn0.refl _ | apply Drawn0.step)⟩
        · rw [if_neg c9] at H
          have c9b0 : (a0.toList == ([] : List UInt8)) = false := beq_eq_false_iff_ne.mpr c9
          have c9b1 : (a0.toList != ([] : List UInt8)) = true := bne_iff_ne.mpr c9
          obtain rfl := Option.some.inj H
          go_wp2
          go_ret
          exact ⟨by first | rfl | (simp; done) | (simp [*]; done), by repeat (first | exact Drawn0.refl _ | apply Drawn0.step)⟩
def rules_Right.f (k : Nat) (a0_0 : Bool) (a0_1 : Bool) (a0_2 : ByteArray) (a0_3 : ByteArray) (a0_4 : ByteArray) : Option (Bool) := (glob_Right.f k a0_2).bind fun t102 => (if t102 = true then (if a0_1 = true then ((glob_Right.f k a0_3).bind fun t103 => (if t103 = true then ((glob_Right.f k a0_4).bind fun t104 => (some t104)) else (some false))) else (some (!a0_1 && (a0_3.toList == ([] : List UInt8) && (a0_4.toList == ([] : List UInt8)))))) else (some false))
theorem rules_Right.mono : ∀ a0 a1 a2 a3 a4 k, LeO (rules_Right.f k a0 a1 a2 a3 a4) (rules_Right.f (k + 1) a0 a1 a2 a3 a4) := by
  intro a0 a1 a2 a3 a4 k
  unfold rules_Right.f
  repeat' first
      | (with_reducible exact glob_Right.mono _ _)
      | (with_reducible exact LeO.refl _)
      | (with_reducible exact LeO.none _)
      | (with_reducible refine LeO.ite ?_ ?_)
      | (with_reducible refine LeO.bind ?_ (fun _ => ?_))
      | exact glob_Right.mono _ _
      | exact LeO.none _
      | refine LeO.ite ?_ ?_
      | refine LeO.bind ?_ (fun _ => ?_)
set_option maxHeartbeats 8000000 in
set_option maxRecDepth 100000 in
theorem rules_Right.calls (k : Nat) (a0_0 : Bool) (a0_1 : Bool) (a0_2 : ByteArray) (a0_3 : ByteArray) (a0_4 : ByteArray) (r : Bool) (w : World) (h : rules_Right.f k a0_0 a0_1 a0_2 a0_3 a0_4 = some r) :
    Calls Tryd.prog 50 #[.agg #[.bool a0_0, .bool a0_1, .string a0_2, .string a0_3, .string a0_4]] w fun e w' => e = .returned (.bool r) ∧ Below w.heap.size w w' := by
  have hu66 := Tryd.underlying66
  have HB := Aside0.mk (Below.refl w.heap.size w)
  have H : ((glob_Right.f k a0_2).bind fun t102 => (if t102 = true then (if a0_1 = true then ((glob_Right.f k a0_3).bind fun t103 => (if t103 = true then ((glob_Right.f k a0_4).bind fun t104 => (some t104)) else (some false))) else (some (!a0_1 && (a0_3.toList == ([] : List UInt8) && (a0_4.toList == ([] : List UInt8)))))) else (some false))) = some r := h
  clear h
  replace H := Option.bind_eq_some_iff.mp H
  obtain ⟨t102, A20, H⟩ := H
  replace H : (if t102 = true then (if a0_1 = true then ((glob_Right.f k a0_3).bind fun t103 => (if t103 = true then ((glob_Right.f k a0_4).bind fun t104 => (some t104)) else (some false))) else (some (!a0_1 && (a0_3.toList == ([] : List UInt8) && (a0_4.toList == ([] : List UInt8)))))) else (some false)) = some r := H
  have A2 := Aside0.mk A20
  clear A20
  by_cases c3 : t102 = true
  · subst c3
    have H1 : (if a0_1 = true then ((glob_Right.f k a0_3).bind fun t103 => (if t103 = true then ((glob_Right.f k a0_4).bind fun t104 => (some t104)) else (some false))) else (some (!a0_1 && (a0_3.toList == ([] : List UInt8) && (a0_4.toList == ([] : List UInt8)))))) = some r := by rw [if_pos rfl] at H; exact H
    clear H
    have H := H1
    clear H1
    by_cases c4 : a0_1 = true
    · subst c4
      have H1 : ((glob_Right.f k a0_3).bind fun t103 => (if t103 = true then ((glob_Right.f k a0_4).bind fun t104 => (some t104)) else (some false))) = some r := by rw [if_pos rfl] at H; exact H
      clear H
      have H := H1
      clear H1
      replace H := Option.bind_eq_some_iff.mp H
      obtain ⟨t103, A50, H⟩ := H
      replace H : (if t103 = true then ((glob_Right.f k a0_4).bind fun t104 => (some t104)) else (some false)) = some r := H
      have A5 := Aside0.mk A50
      clear A50
      by_cases c6 : t103 = true
      · subst c6
        have H1 : ((glob_Right.f k a0_4).bind fun t104 => (some t104)) = some r := by rw [if_pos rfl] at H; exact H
        clear H
        have H := H1
        clear H1
        replace H := Option.bind_eq_some_iff.mp H
        obtain ⟨t104, A70, H⟩ := H
        replace H : (some t104) = some r := H
        have A7 := Aside0.mk A70
        clear A70
        obtain rfl := Option.some.inj H
        go_enter Tryd.func50, Tryd.ntmps50
        go_wp2_with (first | ((with_reducible refine gate_dst (N := 1) rfl ?_); refine box_event ?hg (N := 1) ?hd (cs := #[.bool a0_0, .bool true, .string a0_2, .string a0_3, .string a0_4]) (t := 66) ?hr ?_; (case hd => rfl); (case hg => rfl); (case hr => first | (go_simp; done) | (go_simp; rfl)); intro gb101 hg w8 hbox hb; have n0_ := Aside0.mk (below_step (by repeat (first | (with_reducible first | exact HB.out | apply below_alloc | apply pw_below_drewN | apply below_drew1) | exact HB.out)) hb); have n1_ := Aside0.mk (hbox); have n2_ := Aside0.mk ((by rw [hg]; exact (below_size (by repeat (first | (with_reducible first | exact HB.out | apply below_alloc | apply pw_below_drewN | apply below_drew1) | exact HB.out))) : w.heap.size ≤ gb101)); have n3_ := Aside0.mk ((by rw [hg]; exact (below_size (by repeat (first | (with_reducible first | exact HB.out | apply below_alloc | apply pw_below_drewN | apply below_drew1) | exact HB.out))) : w.heap.size ≤ gb101)); clear HB; have HB := n0_; have BK101 := n1_; have GW101 := n2_; have GE101 := n3_; clear n0_ n1_ n2_ n3_; clear hb hbox hg; have hcz9_0 : w8.cell? ⟨gb101, 0, none⟩ = some (.bool a0_0) := (blk_cell BK101.out 0).trans rfl; have hcz9_1 : w8.cell? ⟨gb101, 1, none⟩ = some (.bool true) := (blk_cell BK101.out 1).trans rfl; have hcz9_2 : w8.cell? ⟨gb101, 2, none⟩ = some (.string a0_2) := (blk_cell BK101.out 2).trans rfl; have hcz9_3 : w8.cell? ⟨gb101, 3, none⟩ = some (.string a0_3) := (blk_cell BK101.out 3).trans rfl; have hcz9_4 : w8.cell? ⟨gb101, 4, none⟩ = some (.string a0_4) := (blk_cell BK101.out 4).trans rfl; have hfz9_0 := blk_frozen BK101.out 0; have hfz9_1 := blk_frozen BK101.out 1; have hfz9_2 := blk_frozen BK101.out 2; have hfz9_3 := blk_frozen BK101.out 3; have hfz9_4 := blk_frozen BK101.out 4) | ((with_reducible refine gate_callee (f := 67) rfl ?_); refine goesL_ (some 5) rfl rfl Tryd.func67 (by kernel_rfl) rfl #[.string a0_2] rfl (by (try simp only [List.map_toArray, List.map_cons, List.map_nil]); first | done | rfl | (simp only [List.length_drop, List.length_take]; rfl)) ?_; (with_reducible refine (glob_Right.calls k a0_2 true _ A2.out).mono ?_); rintro e w' ⟨rfl, ⟨nd, rfl⟩⟩; refine ⟨_, rfl, ?_⟩) | ((with_reducible refine gate_callee (f := 67) rfl ?_); refine goesL_ (some 19) rfl rfl Tryd.func67 (by kernel_rfl) rfl #[.string a0_3] rfl (by (try simp only [List.map_toArray, List.map_cons, List.map_nil]); first | done | rfl | (simp only [List.length_drop, List.length_take]; rfl)) ?_; (with_reducible refine (glob_Right.calls k a0_3 true _ A5.out).mono ?_); rintro e w' ⟨rfl, ⟨nd, rfl⟩⟩; refine ⟨_, rfl, ?_⟩) | (go_at_call 67; (with_reducible refine (glob_Right.calls k a0_4 t104 _ A7.out).mono ?_); rintro e w' ⟨rfl, ⟨nd, rfl⟩⟩))
        go_ret
        exact ⟨by first | rfl | (simp [errW_none, errW_some] <;> rfl) | (simp [*, errW_none, errW_some] <;> rfl), by repeat (first | (with_reducible first | exact HB.out | apply below_alloc | apply pw_below_drewN | apply below_drew1 | refine below_set ?_ GE101.out) | exact HB.out)⟩
      · replace c6 := Bool.eq_false_iff.mpr c6
        subst c6
        have H1 : (some false) = some r := by rw [if_neg (show ¬ (false = true) by decide)] at H; exact H
        clear H
        have H := H1
        clear H1
        obtain rfl := Option.some.inj H
        go_enter Tryd.func50, Tryd.ntmps50
        go_wp2_with (first | ((with_reducible refine gate_dst (N := 1) rfl ?_); refine box_event ?hg (N := 1) ?hd (cs := #[.bool a0_0, .bool true, .string a0_2, .string a0_3, .string a0_4]) (t := 66) ?hr ?_; (case hd => rfl); (case hg => rfl); (case hr => first | (go_simp; done) | (go_simp; rfl)); intro gb101 hg w10 hbox hb; have n0_ := Aside0.mk (below_step (by repeat (first | (with_reducible first | exact HB.out | apply below_alloc | apply pw_below_drewN | apply below_drew1) | exact HB.out)) hb); have n1_ := Aside0.mk (hbox); have n2_ := Aside0.mk ((by rw [hg]; exact (below_size (by repeat (first | (with_reducible first | exact HB.out | apply below_alloc | apply pw_below_drewN | apply below_drew1) | exact HB.out))) : w.heap.size ≤ gb101)); have n3_ := Aside0.mk ((by rw [hg]; exact (below_size (by repeat (first | (with_reducible first | exact HB.out | apply below_alloc | apply pw_below_drewN | apply below_drew1) | exact HB.out))) : w.heap.size ≤ gb101)); clear HB; have HB := n0_; have BK101 := n1_; have GW101 := n2_; have GE101 := n3_; clear n0_ n1_ n2_ n3_; clear hb hbox hg; have hcz11_0 : w10.cell? ⟨gb101, 0, none⟩ = some (.bool a0_0) := (blk_cell BK101.out 0).trans rfl; have hcz11_1 : w10.cell? ⟨gb101, 1, none⟩ = some (.bool true) := (blk_cell BK101.out 1).trans rfl; have hcz11_2 : w10.cell? ⟨gb101, 2, none⟩ = some (.string a0_2) := (blk_cell BK101.out 2).trans rfl; have hcz11_3 : w10.cell? ⟨gb101, 3, none⟩ = some (.string a0_3) := (blk_cell BK101.out 3).trans rfl; have hcz11_4 : w10.cell? ⟨gb101, 4, none⟩ = some (.string a0_4) := (blk_cell BK101.out 4).trans rfl; have hfz11_0 := blk_frozen BK101.out 0; have hfz11_1 := blk_frozen BK101.out 1; have hfz11_2 := blk_frozen BK101.out 2; have hfz11_3 := blk_frozen BK101.out 3; have hfz11_4 := blk_frozen BK101.out 4) | ((with_reducible refine gate_callee (f := 67) rfl ?_); refine goesL_ (some 5) rfl rfl Tryd.func67 (by kernel_rfl) rfl #[.string a0_2] rfl (by (try simp only [List.map_toArray, List.map_cons, List.map_nil]); first | done | rfl | (simp only [List.length_drop, List.length_take]; rfl)) ?_; (with_reducible refine (glob_Right.calls k a0_2 true _ A2.out).mono ?_); rintro e w' ⟨rfl, ⟨nd, rfl⟩⟩; refine ⟨_, rfl, ?_⟩) | ((with_reducible refine gate_callee (f := 67) rfl ?_); refine goesL_ (some 19) rfl rfl Tryd.func67 (by kernel_rfl) rfl #[.string a0_3] rfl (by (try simp only [List.map_toArray, List.map_cons, List.map_nil]); first | done | rfl | (simp only [List.length_drop, List.length_take]; rfl)) ?_; (with_reducible refine (glob_Right.calls k a0_3 false _ A5.out).mono ?_); rintro e w' ⟨rfl, ⟨nd, rfl⟩⟩; refine ⟨_, rfl, ?_⟩))
        go_ret
        exact ⟨by first | rfl | (simp [errW_none, errW_some] <;> rfl) | (simp [*, errW_none, errW_some] <;> rfl), by repeat (first | (with_reducible first | exact HB.out | apply below_alloc | apply pw_below_drewN | apply below_drew1 | refine below_set ?_ GE101.out) | exact HB.out)⟩
    · replace c4 := Bool.eq_false_iff.mpr c4
      subst c4
      have H1 : (some (!false && (a0_3.toList == ([] : List UInt8) && (a0_4.toList == ([] : List UInt8))))) = some r := by rw [if_neg (show ¬ (false = true) by decide)] at H; exact H
      clear H
      have H := H1
      clear H1
      obtain rfl := Option.some.inj H
      go_enter Tryd.func50, Tryd.ntmps50
      go_wp2_with (first | ((with_reducible refine gate_dst (N := 1) rfl ?_); refine box_event ?hg (N := 1) ?hd (cs := #[.bool a0_0, .bool false, .string a0_2, .string a0_3, .string a0_4]) (t := 66) ?hr ?_; (case hd => rfl); (case hg => rfl); (case hr => first | (go_simp; done) | (go_simp; rfl)); intro gb101 hg w12 hbox hb; have n0_ := Aside0.mk (below_step (by repeat (first | (with_reducible first | exact HB.out | apply below_alloc | apply pw_below_drewN | apply below_drew1) | exact HB.out)) hb); have n1_ := Aside0.mk (hbox); have n2_ := Aside0.mk ((by rw [hg]; exact (below_size (by repeat (first | (with_reducible first | exact HB.out | apply below_alloc | apply pw_below_drewN | apply below_drew1) | exact HB.out))) : w.heap.size ≤ gb101)); have n3_ := Aside0.mk ((by rw [hg]; exact (below_size (by repeat (first | (with_reducible first | exact HB.out | apply below_alloc | apply pw_below_drewN | apply below_drew1) | exact HB.out))) : w.heap.size ≤ gb101)); clear HB; have HB := n0_; have BK101 := n1_; have GW101 := n2_; have GE101 := n3_; clear n0_ n1_ n2_ n3_; clear hb hbox hg; have hcz13_0 : w12.cell? ⟨gb101, 0, none⟩ = some (.bool a0_0) := (blk_cell BK101.out 0).trans rfl; have hcz13_1 : w12.cell? ⟨gb101, 1, none⟩ = some (.bool false) := (blk_cell BK101.out 1).trans rfl; have hcz13_2 : w12.cell? ⟨gb101, 2, none⟩ = some (.string a0_2) := (blk_cell BK101.out 2).trans rfl; have hcz13_3 : w12.cell? ⟨gb101, 3, none⟩ = some (.string a0_3) := (blk_cell BK101.out 3).trans rfl; have hcz13_4 : w12.cell? ⟨gb101, 4, none⟩ = some (.string a0_4) := (blk_cell BK101.out 4).trans rfl; have hfz13_0 := blk_frozen BK101.out 0; have hfz13_1 := blk_frozen BK101.out 1; have hfz13_2 := blk_frozen BK101.out 2; have hfz13_3 := blk_frozen BK101.out 3; have hfz13_4 := blk_frozen BK101.out 4) | ((with_reducible refine gate_callee (f := 67) rfl ?_); refine goesL_ (some 5) rfl rfl Tryd.func67 (by kernel_rfl) rfl #[.string a0_2] rfl (by (try simp only [List.map_toArray, List.map_cons, List.map_nil]); first | done | rfl | (simp only [List.length_drop, List.length_take]; rfl)) ?_; (with_reducible refine (glob_Right.calls k a0_2 true _ A2.out).mono ?_); rintro e w' ⟨rfl, ⟨nd, rfl⟩⟩; refine ⟨_, rfl, ?_⟩))
      go_ret
      exact ⟨by first | rfl | (simp [errW_none, errW_some] <;> rfl) | (simp [*, errW_none, errW_some] <;> rfl), by repeat (first | (with_reducible first | exact HB.out | apply below_alloc | apply pw_below_drewN | apply below_drew1 | refine below_set ?_ GE101.out) | exact HB.out)⟩
  · replace c3 := Bool.eq_false_iff.mpr c3
    subst c3
    have H1 : (some false) = some r := by rw [if_neg (show ¬ (false = true) by decide)] at H; exact H
    clear H
    have H := H1
    clear H1
    obtain rfl := Option.some.inj H
    go_enter Tryd.func50, Tryd.ntmps50
    go_wp2_with (first | ((with_reducible refine gate_dst (N := 1) rfl ?_); refine box_event ?hg (N := 1) ?hd (cs := #[.bool a0_0, .bool a0_1, .string a0_2, .string a0_3, .string a0_4]) (t := 66) ?hr ?_; (case hd => rfl); (case hg => rfl); (case hr => first | (go_simp; done) | (go_simp; rfl)); intro gb101 hg w14 hbox hb; have n0_ := Aside0.mk (below_step (by repeat (first | (with_reducible first | exact HB.out | apply below_alloc | apply pw_below_drewN | apply below_drew1) | exact HB.out)) hb); have n1_ := Aside0.mk (hbox); have n2_ := Aside0.mk ((by rw [hg]; exact (below_size (by repeat (first | (with_reducible first | exact HB.out | apply below_alloc | apply pw_below_drewN | apply below_drew1) | exact HB.out))) : w.heap.size ≤ gb101)); have n3_ := Aside0.mk ((by rw [hg]; exact (below_size (by repeat (first | (with_reducible first | exact HB.out | apply below_alloc | apply pw_below_drewN | apply below_drew1) | exact HB.out))) : w.heap.size ≤ gb101)); clear HB; have HB := n0_; have BK101 := n1_; have GW101 := n2_; have GE101 := n3_; clear n0_ n1_ n2_ n3_; clear hb hbox hg; have hcz15_0 : w14.cell? ⟨gb101, 0, none⟩ = some (.bool a0_0) := (blk_cell BK101.out 0).trans rfl; have hcz15_1 : w14.cell? ⟨gb101, 1, none⟩ = some (.bool a0_1) := (blk_cell BK101.out 1).trans rfl; have hcz15_2 : w14.cell? ⟨gb101, 2, none⟩ = some (.string a0_2) := (blk_cell BK101.out 2).trans rfl; have hcz15_3 : w14.cell? ⟨gb101, 3, none⟩ = some (.string a0_3) := (blk_cell BK101.out 3).trans rfl; have hcz15_4 : w14.cell? ⟨gb101, 4, none⟩ = some (.string a0_4) := (blk_cell BK101.out 4).trans rfl; have hfz15_0 := blk_frozen BK101.out 0; have hfz15_1 := blk_frozen BK101.out 1; have hfz15_2 := blk_frozen BK101.out 2; have hfz15_3 := blk_frozen BK101.out 3; have hfz15_4 := blk_frozen BK101.out 4) | ((with_reducible refine gate_callee (f := 67) rfl ?_); refine goesL_ (some 5) rfl rfl Tryd.func67 (by kernel_rfl) rfl #[.string a0_2] rfl (by (try simp only [List.map_toArray, List.map_cons, List.map_nil]); first | done | rfl | (simp only [List.length_drop, List.length_take]; rfl)) ?_; (with_reducible refine (glob_Right.calls k a0_2 false _ A2.out).mono ?_); rintro e w' ⟨rfl, ⟨nd, rfl⟩⟩; refine ⟨_, rfl, ?_⟩))
    go_ret
    exact ⟨by first | rfl | (simp [errW_none, errW_some] <;> rfl) | (simp [*, errW_none, errW_some] <;> rfl), by repeat (first | (with_reducible first | exact HB.out | apply below_alloc | apply pw_below_drewN | apply below_drew1 | refine below_set ?_ GE101.out) | exact HB.out)⟩
mutual
def glob_Match.l0 : Nat → ByteArray → ByteArray → Int → Int → Int → Int → Option (Bool)
  | 0, _, _, _, _, _, _ => none
  | k + 1, x0, x1, x5, x6, x7, x8 => if x8 < (x1.size : Int) then (if x5 < (x0.size : Int) then (if 0 ≤ x5 then (glob_Match.j1 k x0 x1 x5 x6 x7 x8 ((bt x0 x5) == 42)) else (none)) else (glob_Match.j1 k x0 x1 x5 x6 x7 x8 false)) else (glob_Match.l1 k x0 x5)
def glob_Match.j1 : Nat → ByteArray → ByteArray → Int → Int → Int → Int → Bool → Option (Bool)
  | 0, _, _, _, _, _, _, _ => none
  | k + 1, x0, x1, x5, x6, x7, x8, x13 => if x13 = true then (glob_Match.l0 k x0 x1 (wrap64 (x5 + 1)) x5 x8 x8) else (if x5 < (x0.size : Int) then (if 0 ≤ x5 then (if (bt x0 x5) = 63 then (glob_Match.j2 k x0 x1 x5 x6 x7 x8 true) else (if 0 ≤ x8 then (if x8 < (x1.size : Int) then (glob_Match.j2 k x0 x1 x5 x6 x7 x8 ((bt x0 x5) == (bt x1 x8))) else (none)) else (none))) else (none)) else (glob_Match.j2 k x0 x1 x5 x6 x7 x8 false))
def glob_Match.j2 : Nat → ByteArray → ByteArray → Int → Int → Int → Int → Bool → Option (Bool)
  | 0, _, _, _, _, _, _, _ => none
  | k + 1, x0, x1, x5, x6, x7, x8, x28 => if x28 = true then (glob_Match.l0 k x0 x1 (wrap64 (x5 + 1)) x6 x7 (wrap64 (x8 + 1))) else (if x6 ≥ 0 then (glob_Match.l0 k x0 x1 (wrap64 (x6 + 1)) x6 (wrap64 (x7 + 1)) (wrap64 (x7 + 1))) else (some false))
def glob_Match.l1 : Nat → ByteArray → Int → Option (Bool)
  | 0, _, _ => none
  | k + 1, x0, x5 => if x5 < (x0.size : Int) then (if 0 ≤ x5 then (if (bt x0 x5) = 42 then (glob_Match.l1 k x0 (wrap64 (x5 + 1))) else (some (x5 == (x0.size : Int)))) else (none)) else (some (x5 == (x0.size : Int)))
end
def glob_Match.f (k : Nat) (a0 : ByteArray) (a1 : ByteArray) : Option (Bool) := glob_Match.l0 k a0 a1 0 (-1) 0 0
theorem glob_Match.mono_l : ∀ k, (∀ y0 y1 y2 y3 y4 y5, LeO (glob_Match.l0 k y0 y1 y2 y3 y4 y5) (glob_Match.l0 (k + 1) y0 y1 y2 y3 y4 y5)) ∧ (∀ y0 y1 y2 y3 y4 y5 y6, LeO (glob_Match.j1 k y0 y1 y2 y3 y4 y5 y6) (glob_Match.j1 (k + 1) y0 y1 y2 y3 y4 y5 y6)) ∧ (∀ y0 y1 y2 y3 y4 y5 y6, LeO (glob_Match.j2 k y0 y1 y2 y3 y4 y5 y6) (glob_Match.j2 (k + 1) y0 y1 y2 y3 y4 y5 y6)) ∧ (∀ y0 y1, LeO (glob_Match.l1 k y0 y1) (glob_Match.l1 (k + 1) y0 y1))
  | 0 => ⟨fun _ _ _ _ _ _ r h => by simp [glob_Match.l0] at h, fun _ _ _ _ _ _ _ r h => by simp [glob_Match.j1] at h, fun _ _ _ _ _ _ _ r h => by simp [glob_Match.j2] at h, fun _ _ r h => by simp [glob_Match.l1] at h⟩
  | k + 1 => by
    obtain ⟨ih0, ih1, ih2, ih3⟩ := glob_Match.mono_l k
    refine ⟨?_, ?_, ?_, ?_⟩
    · intro y0 y1 y2 y3 y4 y5
      unfold glob_Match.l0
      repeat' first
      | (with_reducible exact ih0 _ _ _ _ _ _)
      | (with_reducible exact ih1 _ _ _ _ _ _ _)
      | (with_reducible exact ih2 _ _ _ _ _ _ _)
      | (with_reducible exact ih3 _ _)
      | (with_reducible exact LeO.refl _)
      | (with_reducible exact LeO.none _)
      | (with_reducible refine LeO.ite ?_ ?_)
      | (with_reducible refine LeO.bind ?_ (fun _ => ?_))
      | exact ih0 _ _ _ _ _ _
      | exact ih1 _ _ _ _ _ _ _
      | exact ih2 _ _ _ _ _ _ _
      | exact ih3 _ _
      | exact LeO.none _
      | refine LeO.ite ?_ ?_
      | refine LeO.bind ?_ (fun _ => ?_)
    · intro y0 y1 y2 y3 y4 y5 y6
      unfold glob_Match.j1
      repeat' first
      | (with_reducible exact ih0 _ _ _ _ _ _)
      | (with_reducible exact ih1 _ _ _ _ _ _ _)
      | (with_reducible exact ih2 _ _ _ _ _ _ _)
      | (with_reducible exact ih3 _ _)
      | (with_reducible exact LeO.refl _)
      | (with_reducible exact LeO.none _)
      | (with_reducible refine LeO.ite ?_ ?_)
      | (with_reducible refine LeO.bind ?_ (fun _ => ?_))
      | exact ih0 _ _ _ _ _ _
      | exact ih1 _ _ _ _ _ _ _
      | exact ih2 _ _ _ _ _ _ _
      | exact ih3 _ _
      | exact LeO.none _
      | refine LeO.ite ?_ ?_
      | refine LeO.bind ?_ (fun _ => ?_)
    · intro y0 y1 y2 y3 y4 y5 y6
      unfold glob_Match.j2
      repeat' first
      | (with_reducible exact ih0 _ _ _ _ _ _)
      | (with_reducible exact ih1 _ _ _ _ _ _ _)
      | (with_reducible exact ih2 _ _ _ _ _ _ _)
      | (with_reducible exact ih3 _ _)
      | (with_reducible exact LeO.refl _)
      | (with_reducible exact LeO.none _)
      | (with_reducible refine LeO.ite ?_ ?_)
      | (with_reducible refine LeO.bind ?_ (fun _ => ?_))
      | exact ih0 _ _ _ _ _ _
      | exact ih1 _ _ _ _ _ _ _
      | exact ih2 _ _ _ _ _ _ _
      | exact ih3 _ _
      | exact LeO.none _
      | refine LeO.ite ?_ ?_
      | refine LeO.bind ?_ (fun _ => ?_)
    · intro y0 y1
      unfold glob_Match.l1
      repeat' first
      | (with_reducible exact ih0 _ _ _ _ _ _)
      | (with_reducible exact ih1 _ _ _ _ _ _ _)
      | (with_reducible exact ih2 _ _ _ _ _ _ _)
      | (with_reducible exact ih3 _ _)
      | (with_reducible exact LeO.refl _)
      | (with_reducible exact LeO.none _)
      | (with_reducible refine LeO.ite ?_ ?_)
      | (with_reducible refine LeO.bind ?_ (fun _ => ?_))
      | exact ih0 _ _ _ _ _ _
      | exact ih1 _ _ _ _ _ _ _
      | exact ih2 _ _ _ _ _ _ _
      | exact ih3 _ _
      | exact LeO.none _
      | refine LeO.ite ?_ ?_
      | refine LeO.bind ?_ (fun _ => ?_)
theorem glob_Match.mono : ∀ a0 a1 k, LeO (glob_Match.f k a0 a1) (glob_Match.f (k + 1) a0 a1) := by
  intro a0 a1 k
  obtain ⟨ih0, ih1, ih2, ih3⟩ := glob_Match.mono_l k
  unfold glob_Match.f
  repeat' first
      | (with_reducible exact ih0 _ _ _ _ _ _)
      | (with_reducible exact ih1 _ _ _ _ _ _ _)
      | (with_reducible exact ih2 _ _ _ _ _ _ _)
      | (with_reducible exact ih3 _ _)
      | (with_reducible exact LeO.refl _)
      | (with_reducible exact LeO.none _)
      | (with_reducible refine LeO.ite ?_ ?_)
      | (with_reducible refine LeO.bind ?_ (fun _ => ?_))
      | exact ih0 _ _ _ _ _ _
      | exact ih1 _ _ _ _ _ _ _
      | exact ih2 _ _ _ _ _ _ _
      | exact ih3 _ _
      | exact LeO.none _
      | refine LeO.ite ?_ ?_
      | refine LeO.bind ?_ (fun _ => ?_)
set_option maxHeartbeats 8000000 in
set_option maxRecDepth 100000 in
theorem glob_Match.calls (k : Nat) (a0 : ByteArray) (a1 : ByteArray) (r : Bool) (w : World) (h : glob_Match.f k a0 a1 = some r) :
    Calls Tryd.prog 66 #[.string a0, .string a1] w fun e w' => e = .returned (.bool r) ∧ Drawn0 w w' := by
  have H : (glob_Match.l0 k a0 a1 0 (-1) 0 0) = some r := h
  clear h
  have H' := Aside0.mk H
  clear H
  go_enter Tryd.func66, Tryd.ntmps66
  go_wp2
  repeat (go_quiet (fail); try go_wp2)
  go_loopg [5, 6, 7, 8] k (fun kq v5 v6 v7 v8 w' => ∃ (x5_1 : Int) (x6_1 : Int) (x7_1 : Int) (x8_1 : Int), v5 = .int .i64 x5_1 ∧ v6 = .int .i64 x6_1 ∧ v7 = .int .i64 x7_1 ∧ v8 = .int .i64 x8_1 ∧ Aside0 (glob_Match.l0 kq a0 a1 x5_1 x6_1 x7_1 x8_1 = some r) ∧ Aside0 (kq ≤ k) ∧ Drawn0 w w')
  case atStart => exact ⟨(0), ((-1)), (0), (0), (by first | rfl | (simp; done) | (simp [*]; done)), (by first | rfl | (simp; done) | (simp [*]; done)), (by first | rfl | (simp; done) | (simp [*]; done)), (by first | rfl | (simp; done) | (simp [*]; done)), H', ⟨Nat.le_refl _⟩, by repeat (first | exact Drawn0.refl _ | apply Drawn0.step)⟩
  case round =>
    clear H'
    try clear p2
    obtain ⟨x5_1, x6_1, x7_1, x8_1, rfl, rfl, rfl, rfl, HA, HK1, ⟨m1, rfl⟩⟩ := hrel
    cases gk with
    | zero => exact absurd HA.out (by simp [glob_Match.l0])
    | succ k1 =>
      have H := HA.out
      clear HA
      simp only [glob_Match.l0] at H
      by_cases c3 : x8_1 < (a1.size : Int)
      · rw [if_pos c3] at H
        have c3b0 : decide (x8_1 < (a1.size : Int)) = true := decide_eq_true c3
        clear c3
        have HC4 := Aside0.mk H
        clear H
        go_upto_region 5 with (fail)
        repeat (go_quiet (fail); go_upto_region 5 with (fail))
        go_cut [13] (fun v13 wc => ∃ (kq : Nat) (x13_3 : Bool), v13 = .bool x13_3 ∧ Aside0 (glob_Match.j1 kq a0 a1 x5_1 x6_1 x7_1 x8_1 x13_3 = some r) ∧ Aside0 (kq ≤ k1) ∧ Drawn0 w wc)
        case first =>
          have H := HC4.out
          clear HC4
          by_cases c5 : x5_1 < (a0.size : Int)
          · rw [if_pos c5] at H
            have c5b0 : decide (x5_1 < (a0.size : Int)) = true := decide_eq_true c5
            clear c5
            (first | rw [c5b0] | rw [c5b1] | (simp only [i64_w, i32_w]; rw [c5b0]) | skip)
            by_cases c6 : 0 ≤ x5_1
            · rw [if_pos c6] at H
              have c6b0 : decide (0 ≤ x5_1) = true := decide_eq_true c6
              clear c6
              have H' := Aside0.mk H
              clear H
              have p7 : 0 ≤ (x5_1 : Int) := of_decide_eq_true (by first | (with_reducible assumption) | assumption)
              have q7 : x5_1 < (a0.size : Int) := of_decide_eq_true (by first | (with_reducible assumption) | assumption)
              have hx7 := bt_at a0 x5_1
              replace p7 := eq_true p7
              replace q7 := eq_true q7
              go_wp2
              repeat (go_quiet (fail); try go_wp2)
              go_meet
              case rel => exact ⟨_, (((bt a0 x5_1) == 42)), (by first | rfl | (simp; done) | (simp [*]; done)), H', ⟨by have := HK1.out; first | omega | exact Nat.le_refl _⟩, by repeat (first | exact Drawn0.refl _ | apply Drawn0.step)⟩
            · rw [if_neg c6] at H
              exact absurd H (by simp)
          · rw [if_neg c5] at H
            have c5b0 : decide (x5_1 < (a0.size : Int)) = false := decide_eq_false c5
            clear c5
            (first | rw [c5b0] | rw [c5b1] | (simp only [i64_w, i32_w]; rw [c5b0]) | skip)
            have H' := Aside0.mk H
            clear H
            go_wp2
            repeat (go_quiet (fail); try go_wp2)
            go_meet
            case rel => exact ⟨_, (false), (by first | rfl | (simp; done) | (simp [*]; done)), H', ⟨by have := HK1.out; first | omega | exact Nat.le_refl _⟩, by repeat (first | exact Drawn0.refl _ | apply Drawn0.step)⟩
        case rest =>
          clear HC4
          try clear p2
          try clear c3
          try clear c3b0
          try clear c5
          try clear c5b0
          try clear c5b1
          try clear c6
          try clear c6b0
          try clear p7
          try clear q7
          try clear hx7
          try clear p2
          try clear p7
          try clear q7
          obtain ⟨kq, x13_3, rfl, HA, HJ3, ⟨mc3, rfl⟩⟩ := hcut
          cases kq with
          | zero => exact absurd HA.out (by simp [glob_Match.j1])
          | succ kj3 =>
            have H := HA.out
            clear HA
            simp only [glob_Match.j1] at H
            by_cases c8 : x13_3 = true
            · subst c8
              have H1 : (glob_Match.l0 kj3 a0 a1 (wrap64 (x5_1 + 1)) x5_1 x8_1 x8_1) = some r := by rw [if_pos rfl] at H; exact H
              clear H
              have H := H1
              clear H1
              have H' := Aside0.mk H
              clear H
              go_wp2
              repeat (go_quiet (fail); try go_wp2)
              go_roundg kj3
              case measure => have := HK1.out; have := HJ3.out; omega
              case rel => exact ⟨(wrap64 (x5_1 + 1)), (x5_1), (x8_1), (x8_1), (by first | rfl | (simp; done) | (simp [*]; done)), (by first | rfl | (simp; done) | (simp [*]; done)), (by first | rfl | (simp; done) | (simp [*]; done)), (by first | rfl | (simp; done) | (simp [*]; done)), H', ⟨by have := HK1.out; have := HJ3.out; omega⟩, by repeat (first | exact Drawn0.refl _ | apply Drawn0.step)⟩
            · replace c8 := Bool.eq_false_iff.mpr c8
              subst c8
              have H1 : (if x5_1 < (a0.size : Int) then (if 0 ≤ x5_1 then (if (bt a0 x5_1) = 63 then (glob_Match.j2 kj3 a0 a1 x5_1 x6_1 x7_1 x8_1 true) else (if 0 ≤ x8_1 then (if x8_1 < (a1.size : Int) then (glob_Match.j2 kj3 a0 a1 x5_1 x6_1 x7_1 x8_1 ((bt a0 x5_1) == (bt a1 x8_1))) else (none)) else (none))) else (none)) else (glob_Match.j2 kj3 a0 a1 x5_1 x6_1 x7_1 x8_1 false)) = some r := by rw [if_neg (show ¬ (false = true) by decide)] at H; exact H
              clear H
              have H := H1
              clear H1
              have HC9 := Aside0.mk H
              clear H
              go_upto_region 8 with (fail)
              repeat (go_quiet (fail); go_upto_region 8 with (fail))
              go_cut [28] (fun v28 wc => ∃ (kq : Nat) (x28_8 : Bool), v28 = .bool x28_8 ∧ Aside0 (glob_Match.j2 kq a0 a1 x5_1 x6_1 x7_1 x8_1 x28_8 = some r) ∧ Aside0 (kq ≤ kj3) ∧ Drawn0 w wc)
              case first =>
                have H := HC9.out
                clear HC9
                by_cases c10 : x5_1 < (a0.size : Int)
                · rw [if_pos c10] at H
                  have c10b0 : decide (x5_1 < (a0.size : Int)) = true := decide_eq_true c10
                  clear c10
                  (first | rw [c10b0] | rw [c10b1] | (simp only [i64_w, i32_w]; rw [c10b0]) | skip)
                  by_cases c11 : 0 ≤ x5_1
                  · rw [if_pos c11] at H
                    have c11b0 : decide (0 ≤ x5_1) = true := decide_eq_true c11
                    clear c11
                    by_cases c13 : (bt a0 x5_1) = 63
                    · rw [if_pos c13] at H
                      have c13b0 : ((bt a0 x5_1) == 63) = true := beq_iff_eq.mpr c13
                      have c13b1 : ((bt a0 x5_1) != 63) = false := bne_eq_false_iff_eq.mpr c13
                      clear c13
                      have H' := Aside0.mk H
                      clear H
                      have p12 : 0 ≤ (x5_1 : Int) := of_decide_eq_true (by first | (with_reducible assumption) | assumption)
                      have q12 : x5_1 < (a0.size : Int) := of_decide_eq_true (by first | (with_reducible assumption) | assumption)
                      have hx12 := bt_at a0 x5_1
                      replace p12 := eq_true p12
                      replace q12 := eq_true q12
                      go_wp2
                      repeat (go_quiet (fail); try go_wp2)
                      go_meet
                      case rel => exact ⟨_, (true), (by first | rfl | (simp; done) | (simp [*]; done)), H', ⟨by have := HK1.out; have := HJ3.out; first | omega | exact Nat.le_refl _⟩, by repeat (first | exact Drawn0.refl _ | apply Drawn0.step)⟩
                    · rw [if_neg c13] at H
                      have c13b0 : ((bt a0 x5_1) == 63) = false := beq_eq_false_iff_ne.mpr c13
                      have c13b1 : ((bt a0 x5_1) != 63) = true := bne_iff_ne.mpr c13
                      by_cases c15 : 0 ≤ x8_1
                      · rw [if_pos c15] at H
                        have c15b0 : decide (0 ≤ x8_1) = true := decide_eq_true c15
                        clear c15
                        by_cases c16 : x8_1 < (a1.size : Int)
                        · rw [if_pos c16] at H
                          have c16b0 : decide (x8_1 < (a1.size : Int)) = true := decide_eq_true c16
                          clear c16
                          have H' := Aside0.mk H
                          clear H
                          have p12 : 0 ≤ (x5_1 : Int) := of_decide_eq_true (by first | (with_reducible assumption) | assumption)
                          have q12 : x5_1 < (a0.size : Int) := of_decide_eq_true (by first | (with_reducible assumption) | assumption)
                          have hx12 := bt_at a0 x5_1
                          replace p12 := eq_true p12
                          replace q12 := eq_true q12
                          have p14 : 0 ≤ (x5_1 : Int) := of_decide_eq_true (by first | (with_reducible assumption) | assumption)
                          have q14 : x5_1 < (a0.size : Int) := of_decide_eq_true (by first | (with_reducible assumption) | assumption)
                          have hx14 := bt_at a0 x5_1
                          replace p14 := eq_true p14
                          replace q14 := eq_true q14
                          have p17 : 0 ≤ (x8_1 : Int) := of_decide_eq_true (by first | (with_reducible assumption) | assumption)
                          have q17 : x8_1 < (a1.size : Int) := of_decide_eq_true (by first | (with_reducible assumption) | assumption)
                          have hx17 := bt_at a1 x8_1
                          replace p17 := eq_true p17
                          replace q17 := eq_true q17
                          go_wp2
                          repeat (go_quiet (fail); try go_wp2)
                          go_meet
                          case rel => exact ⟨_, (((bt a0 x5_1) == (bt a1 x8_1))), (by first | rfl | (simp; done) | (simp [*]; done)), H', ⟨by have := HK1.out; have := HJ3.out; first | omega | exact Nat.le_refl _⟩, by repeat (first | exact Drawn0.refl _ | apply Drawn0.step)⟩
                        · rw [if_neg c16] at H
                          exact absurd H (by simp)
                      · rw [if_neg c15] at H
                        exact absurd H (by simp)
                  · rw [if_neg c11] at H
                    exact absurd H (by simp)
                · rw [if_neg c10] at H
                  have c10b0 : decide (x5_1 < (a0.size : Int)) = false := decide_eq_false c10
                  clear c10
                  (first | rw [c10b0] | rw [c10b1] | (simp only [i64_w, i32_w]; rw [c10b0]) | skip)
                  have H' := Aside0.mk H
                  clear H
                  go_wp2
                  repeat (go_quiet (fail); try go_wp2)
                  go_meet
                  case rel => exact ⟨_, (false), (by first | rfl | (simp; done) | (simp [*]; done)), H', ⟨by have := HK1.out; have := HJ3.out; first | omega | exact Nat.le_refl _⟩, by repeat (first | exact Drawn0.refl _ | apply Drawn0.step)⟩
              case rest =>
                clear HC9
                try clear c1
                try clear p1
                try clear q1
                try clear hx1
                try clear p2
                try clear c3
                try clear c3b0
                try clear c5
                try clear c5b0
                try clear c5b1
                try clear c6
                try clear c6b0
                try clear p6
                try clear p7
                try clear q7
                try clear hx7
                try clear c8
                try clear c10
                try clear c10b0
                try clear c10b1
                try clear c11
                try clear c11b0
                try clear p12
                try clear q12
                try clear hx12
                try clear c13
                try clear c13b0
                try clear c13b1
                try clear p14
                try clear q14
                try clear hx14
                try clear c15
                try clear c15b0
                try clear c16
                try clear c16b0
                try clear p17
                try clear q17
                try clear hx17
                try clear p12
                try clear p14
                try clear p17
                try clear p2
                try clear p7
                try clear q12
                try clear q14
                try clear q17
                try clear q7
                obtain ⟨kq, x28_8, rfl, HA, HJ8, ⟨mc8, rfl⟩⟩ := hcut
                cases kq with
                | zero => exact absurd HA.out (by simp [glob_Match.j2])
                | succ kj8 =>
                  have H := HA.out
                  clear HA
                  simp only [glob_Match.j2] at H
                  by_cases c18 : x28_8 = true
                  · subst c18
                    have H1 : (glob_Match.l0 kj8 a0 a1 (wrap64 (x5_1 + 1)) x6_1 x7_1 (wrap64 (x8_1 + 1))) = some r := by rw [if_pos rfl] at H; exact H
                    clear H
                    have H := H1
                    clear H1
                    have H' := Aside0.mk H
                    clear H
                    go_wp2
                    repeat (go_quiet (fail); try go_wp2)
                    go_roundg kj8
                    case measure => have := HK1.out; have := HJ3.out; have := HJ8.out; omega
                    case rel => exact ⟨(wrap64 (x5_1 + 1)), (x6_1), (x7_1), (wrap64 (x8_1 + 1)), (by first | rfl | (simp; done) | (simp [*]; done)), (by first | rfl | (simp; done) | (simp [*]; done)), (by first | rfl | (simp; done) | (simp [*]; done)), (by first | rfl | (simp; done) | (simp [*]; done)), H', ⟨by have := HK1.out; have := HJ3.out; have := HJ8.out; omega⟩, by repeat (first | exact Drawn0.refl _ | apply Drawn0.step)⟩
                  · replace c18 := Bool.eq_false_iff.mpr c18
                    subst c18
                    have H1 : (if x6_1 ≥ 0 then (glob_Match.l0 kj8 a0 a1 (wrap64 (x6_1 + 1)) x6_1 (wrap64 (x7_1 + 1)) (wrap64 (x7_1 + 1))) else (some false)) = some r := by rw [if_neg (show ¬ (false = true) by decide)] at H; exact H
                    clear H
                    have H := H1
                    clear H1
                    by_cases c19 : x6_1 ≥ 0
                    · rw [if_pos c19] at H
                      have c19b0 : decide (0 ≤ x6_1) = true := decide_eq_true c19
                      clear c19
                      have H' := Aside0.mk H
                      clear H
                      go_wp2
                      repeat (go_quiet (fail); try go_wp2)
                      go_roundg kj8
                      case measure => have := HK1.out; have := HJ3.out; have := HJ8.out; omega
                      case rel => exact ⟨(wrap64 (x6_1 + 1)), (x6_1), (wrap64 (x7_1 + 1)), (wrap64 (x7_1 + 1)), (by first | rfl | (simp; done) | (simp [*]; done)), (by first | rfl | (simp; done) | (simp [*]; done)), (by first | rfl | (simp; done) | (simp [*]; done)), (by first | rfl | (simp; done) | (simp [*]; done)), H', ⟨by have := HK1.out; have := HJ3.out; have := HJ8.out; omega⟩, by repeat (first | exact Drawn0.refl _ | apply Drawn0.step)⟩
                    · rw [if_neg c19] at H
                      have c19b0 : decide (0 ≤ x6_1) = false := decide_eq_false c19
                      clear c19
                      obtain rfl := Option.some.inj H
                      go_wp2
                      repeat (go_quiet (fail); try go_wp2)
                      go_ret
                      exact ⟨by first | rfl | (simp; done) | (simp [*]; done), by repeat (first | exact Drawn0.refl _ | apply Drawn0.step)⟩
      · rw [if_neg c3] at H
        have c3b0 : decide (x8_1 < (a1.size : Int)) = false := decide_eq_false c3
        clear c3
        have H' := Aside0.mk H
        clear H
        go_wp2
        repeat (go_quiet (fail); try go_wp2)
        go_loopg [5] k1 (fun kq v5 w' => ∃ (x5_2 : Int), v5 = .int .i64 x5_2 ∧ Aside0 (glob_Match.l1 kq a0 x5_2 = some r) ∧ Aside0 (kq ≤ k1) ∧ Drawn0 w w')
        case atStart => exact ⟨(x5_1), (by first | rfl | (simp; done) | (simp [*]; done)), H', ⟨Nat.le_refl _⟩, by repeat (first | exact Drawn0.refl _ | apply Drawn0.step)⟩
        case round =>
          clear H'
          try clear c1
          try clear p1
          try clear q1
          try clear hx1
          try clear p2
          try clear c3
          try clear c3b0
          try clear c5
          try clear c5b0
          try clear c5b1
          try clear c6
          try clear c6b0
          try clear p6
          try clear p7
          try clear q7
          try clear hx7
          try clear c8
          try clear c10
          try clear c10b0
          try clear c10b1
          try clear c11
          try clear c11b0
          try clear p12
          try clear q12
          try clear hx12
          try clear c13
          try clear c13b0
          try clear c13b1
          try clear p14
          try clear q14
          try clear hx14
          try clear c15
          try clear c15b0
          try clear c16
          try clear c16b0
          try clear p17
          try clear q17
          try clear hx17
          try clear c18
          try clear c19
          try clear c19b0
          try clear p1
          try clear p12
          try clear p14
          try clear p17
          try clear p2
          try clear p6
          try clear p7
          try clear q1
          try clear q12
          try clear q14
          try clear q17
          try clear q7
          obtain ⟨x5_2, rfl, HA, HK2, ⟨m2, rfl⟩⟩ := hrel
          cases gk with
          | zero => exact absurd HA.out (by simp [glob_Match.l1])
          | succ k2 =>
            have H := HA.out
            clear HA
            simp only [glob_Match.l1] at H
            by_cases c20 : x5_2 < (a0.size : Int)
            · rw [if_pos c20] at H
              have c20b0 : decide (x5_2 < (a0.size : Int)) = true := decide_eq_true c20
              clear c20
              by_cases c21 : 0 ≤ x5_2
              · rw [if_pos c21] at H
                have c21b0 : decide (0 ≤ x5_2) = true := decide_eq_true c21
                clear c21
                by_cases c23 : (bt a0 x5_2) = 42
                · rw [if_pos c23] at H
                  have c23b0 : ((bt a0 x5_2) == 42) = true := beq_iff_eq.mpr c23
                  have c23b1 : ((bt a0 x5_2) != 42) = false := bne_eq_false_iff_eq.mpr c23
                  clear c23
                  have H' := Aside0.mk H
                  clear H
                  have p22 : 0 ≤ (x5_2 : Int) := of_decide_eq_true (by first | (with_reducible assumption) | assumption)
                  have q22 : x5_2 < (a0.size : Int) := of_decide_eq_true (by first | (with_reducible assumption) | assumption)
                  have hx22 := bt_at a0 x5_2
                  replace p22 := eq_true p22
                  replace q22 := eq_true q22
                  go_wp2
                  repeat (go_quiet (fail); try go_wp2)
                  go_roundg k2
                  case measure => have := HK1.out; have := HK2.out; omega
                  case rel => exact ⟨(wrap64 (x5_2 + 1)), (by first | rfl | (simp; done) | (simp [*]; done)), H', ⟨by have := HK1.out; have := HK2.out; omega⟩, by repeat (first | exact Drawn0.refl _ | apply Drawn0.step)⟩
                · rw [if_neg c23] at H
                  have c23b0 : ((bt a0 x5_2) == 42) = false := beq_eq_false_iff_ne.mpr c23
                  have c23b1 : ((bt a0 x5_2) != 42) = true := bne_iff_ne.mpr c23
                  obtain rfl := Option.some.inj H
                  have p22 : 0 ≤ (x5_2 : Int) := of_decide_eq_true (by first | (with_reducible assumption) | assumption)
                  have q22 : x5_2 < (a0.size : Int) := of_decide_eq_true (by first | (with_reducible assumption) | assumption)
                  have hx22 := bt_at a0 x5_2
                  replace p22 := eq_true p22
                  replace q22 := eq_true q22
                  go_wp2
                  repeat (go_quiet (fail); try go_wp2)
                  go_ret
                  exact ⟨by first | rfl | (simp; done) | (simp [*]; done), by repeat (first | exact Drawn0.refl _ | apply Drawn0.step)⟩
              · rw [if_neg c21] at H
                exact absurd H (by simp)
            · rw [if_neg c20] at H
              have c20b0 : decide (x5_2 < (a0.size : Int)) = false := decide_eq_false c20
              clear c20
              obtain rfl := Option.some.inj H
              go_wp2
              repeat (go_quiet (fail); try go_wp2)
              go_ret
              exact ⟨by first | rfl | (simp; done) | (simp [*]; done), by repeat (first | exact Drawn0.refl _ | apply Drawn0.step)⟩
end Go.Proofs.YtmlbfepibfobaaaDoor.Q14
end

section
namespace Go.Proofs.YtmlbfepibfobaaaDoor.Q14
open Go.RowKit Go.Proofs.YtmlbfepibfobaaaDoorW.PrintWords Go.Proofs.YtmlbfepibfobaaaDoorW.PrintLast Go.Proofs.YtmlbfepibfobaaaDoorW.PrintMore
attribute [local go_sem] max2_int min2_int max_two min_two max_three min_three max_four min_four   -- for this text's walks alone
set_option linter.unusedVariables false
set_option linter.unusedSimpArgs false
end Go.Proofs.YtmlbfepibfobaaaDoor.Q14
end

section
namespace Go.Proofs.YtmlbfepibfobaaaDoor.Hand
open Go.RowKit Go.Proofs.YtmlbfepibfobaaaDoorW.PrintWords Go.Proofs.YtmlbfepibfobaaaDoorW.PrintLast Go.Proofs.YtmlbfepibfobaaaDoorW.PrintMore
set_option linter.unusedVariables false
set_option linter.unusedSimpArgs false
theorem globB_bt {b : UInt8} : globB b = (!decide ((b.toNat : Int) ≤ 32) && !decide ((b.toNat : Int) > 126)) := by
  unfold globB
  by_cases h1 : b.toNat ≤ 32
  · rw [decide_eq_false (show ¬ (33 ≤ b.toNat ∧ b.toNat ≤ 126) by omega), decide_eq_true (show (b.toNat : Int) ≤ 32 by omega)]
    rfl
  · by_cases h2 : b.toNat > 126
    · rw [decide_eq_false (show ¬ (33 ≤ b.toNat ∧ b.toNat ≤ 126) by omega), decide_eq_true (show (b.toNat : Int) > 126 by omega)]
      simp
    · rw [decide_eq_true (show (33 ≤ b.toNat ∧ b.toNat ≤ 126) by omega), decide_eq_false (show ¬ (b.toNat : Int) ≤ 32 by omega), decide_eq_false (show ¬ (b.toNat : Int) > 126 by omega)]
      rfl
theorem globR_loop (s : ByteArray) (hs : s.size ≤ 9223372036854775807) : ∀ (d i k : Nat), s.size - i = d → i ≤ s.size → d < k → Q14.glob_Right.l0 k s (s.size : Int) (i : Int) = some (((bl s).drop i).all globB && decide (0 < s.size ∧ s.size ≤ 64)) := by
  intro d
  induction d with
  | zero =>
    intro i k hd hi hk
    obtain ⟨k, rfl⟩ : ∃ j, k = j + 1 := ⟨k - 1, by omega⟩
    rw [Q14.glob_Right.l0, if_neg (by omega), List.drop_of_length_le (by rw [bl_len]; omega), List.all_nil, Bool.true_and]
    by_cases h0 : s.size = 0
    · have e : s.toList = [] := by
        rw [ByteArray.toList_eq]
        exact List.eq_nil_of_length_eq_zero (by rw [Array.length_toList]; exact h0)
      rw [if_pos e, decide_eq_false (show ¬ (0 < s.size ∧ s.size ≤ 64) by omega)]
    · have e : ¬ s.toList = [] := by
        rw [ByteArray.toList_eq]
        intro e
        apply h0
        have := congrArg List.length e
        rw [Array.length_toList] at this
        exact this
      rw [if_neg e]
      by_cases h : s.size ≤ 64
      · rw [decide_eq_true (show (s.size : Int) ≤ 64 by omega), decide_eq_true (show 0 < s.size ∧ s.size ≤ 64 by omega)]
      · rw [decide_eq_false (show ¬ (s.size : Int) ≤ 64 by omega), decide_eq_false (show ¬ (0 < s.size ∧ s.size ≤ 64) by omega)]
  | succ d ih =>
    intro i k hd hi hk
    obtain ⟨k, rfl⟩ : ∃ j, k = j + 1 := ⟨k - 1, by omega⟩
    have hlt : i < s.size := by omega
    obtain ⟨b, hb1, hb2, hdr⟩ := bt_bl s i hlt
    have hw : wrap64 ((i : Int) + 1) = ((i + 1 : Nat) : Int) := by rw [wrap_in (by omega) (by omega)]; omega
    rw [Q14.glob_Right.l0, if_pos (by omega), if_pos (by omega), if_pos (by omega), hb2, hdr, List.all_cons, globB_bt, hw, ih (i + 1) k (by omega) (by omega) (by omega)]
    by_cases h1 : (b.toNat : Int) ≤ 32
    · rw [if_pos h1, decide_eq_true h1]
      rfl
    · rw [if_neg h1, decide_eq_false h1]
      by_cases h2 : (b.toNat : Int) > 126
      · rw [if_pos h2, decide_eq_true h2]
        rfl
      · rw [if_neg h2, decide_eq_false h2]
        rfl
theorem globR_eq (s : ByteArray) (hs : s.size ≤ 9223372036854775807) (k : Nat) (hk : s.size < k) : Q14.glob_Right.f k s = some (globR (bl s)) := by
  have h := globR_loop s hs s.size 0 k rfl (Nat.zero_le _) hk
  rw [List.drop_zero] at h
  unfold Q14.glob_Right.f globR
  rw [bl_len]
  exact h
def glob_Right.f (s : ByteArray) : Option Bool := if s.size ≤ 9223372036854775807 then some (globR (bl s)) else none
theorem glob_Right.calls (a0 : ByteArray) (r : Bool) (w : World) (h : glob_Right.f a0 = some r) :
    Calls Tryd.prog 67 #[.string a0] w fun e w' => e = .returned (.bool r) ∧ Drawn0 w w' := by
  unfold glob_Right.f at h
  split at h
  · rename_i hs
    exact Q14.glob_Right.calls _ a0 r w ((globR_eq a0 hs _ (Nat.lt_succ_self _)).trans h)
  · cases h
def ofR (x : S66) : Rl := (x.f0, x.f1, bl x.f2, bl x.f3, bl x.f4)
def toR (r : Rl) : S66 := ⟨r.1, r.2.1, lb r.2.2.1, lb r.2.2.2.1, lb r.2.2.2.2⟩
theorem emp_eq (s : ByteArray) : (s.toList == ([] : List UInt8)) = decide (bl s = []) := by
  rw [ByteArray.toList_eq]
  unfold bl
  cases s.data.toList with
  | nil => rfl
  | cons x l => rfl
theorem ruleR_eq (n m : Bool) (c a d : ByteArray) (hc : c.size ≤ 9223372036854775807) (ha : a.size ≤ 9223372036854775807) (hd : d.size ≤ 9223372036854775807) (k : Nat) (hk : c.size + a.size + d.size < k) : Q14.rules_Right.f k n m c a d = some (rightR (n, m, bl c, bl a, bl d)) := by
  unfold Q14.rules_Right.f rightR
  rw [globR_eq c hc k (by omega), Option.bind_some]
  cases h1 : globR (bl c) with
  | false => rfl
  | true =>
    rw [if_pos rfl]
    cases m with
    | false =>
      rw [if_neg (by decide), emp_eq, emp_eq]
      by_cases e1 : bl a = []
      · by_cases e2 : bl d = [] <;> simp [e1, e2]
      · simp [e1]
    | true =>
      rw [if_pos rfl, globR_eq a ha k (by omega), Option.bind_some]
      cases h2 : globR (bl a) with
      | false => simp [h2]
      | true =>
        rw [if_pos rfl, globR_eq d hd k (by omega)]
        simp [h2]
def rules_Right.f (n m : Bool) (c a d : ByteArray) : Option Bool := if c.size ≤ 9223372036854775807 ∧ a.size ≤ 9223372036854775807 ∧ d.size ≤ 9223372036854775807 then some (rightR (n, m, bl c, bl a, bl d)) else none
theorem rules_Right.calls (a0_0 : Bool) (a0_1 : Bool) (a0_2 : ByteArray) (a0_3 : ByteArray) (a0_4 : ByteArray) (r : Bool) (w : World) (h : rules_Right.f a0_0 a0_1 a0_2 a0_3 a0_4 = some r) :
    Calls Tryd.prog 50 #[.agg #[.bool a0_0, .bool a0_1, .string a0_2, .string a0_3, .string a0_4]] w fun e w' => e = .returned (.bool r) ∧ Below w.heap.size w w' := by
  unfold rules_Right.f at h
  split at h
  · rename_i hs
    exact Q14.rules_Right.calls _ a0_0 a0_1 a0_2 a0_3 a0_4 r w ((ruleR_eq a0_0 a0_1 a0_2 a0_3 a0_4 hs.1 hs.2.1 hs.2.2 _ (Nat.lt_succ_self _)).trans h)
  · cases h
theorem byte_eq {b c : UInt8} {m : Int} (hm : m = (c.toNat : Int)) : ((b.toNat : Int) = m) ↔ b = c := by
  subst hm
  constructor
  · intro h
    apply UInt8.toNat_inj.1
    omega
  · rintro rfl
    rfl
theorem stars_loop (p : ByteArray) (hp : p.size ≤ 1048576) : ∀ (d i k : Nat), p.size - i = d → i ≤ p.size → d < k → Q14.glob_Match.l1 k p (i : Int) = some (((bl p).drop i).all (· == 42)) := by
  intro d
  induction d with
  | zero =>
    intro i k hd hi hk
    obtain ⟨k, rfl⟩ : ∃ j, k = j + 1 := ⟨k - 1, by omega⟩
    rw [Q14.glob_Match.l1, if_neg (by omega), List.drop_of_length_le (by rw [bl_len]; omega), beq_iff_eq.2 (show (i : Int) = (p.size : Int) by omega)]
    rfl
  | succ d ih =>
    intro i k hd hi hk
    obtain ⟨k, rfl⟩ : ∃ j, k = j + 1 := ⟨k - 1, by omega⟩
    have hlt : i < p.size := by omega
    obtain ⟨b, hb1, hb2, hdr⟩ := bt_bl p i hlt
    have hw : wrap64 ((i : Int) + 1) = ((i + 1 : Nat) : Int) := by rw [wrap_in (by omega) (by omega)]; omega
    rw [Q14.glob_Match.l1, if_pos (by omega), if_pos (by omega), hb2, hdr, List.all_cons, hw, ih (i + 1) k (by omega) (by omega) (by omega)]
    by_cases h : b = 42
    · rw [if_pos ((byte_eq (c := 42) (by decide)).2 h), h]
      rfl
    · rw [if_neg (fun e => h ((byte_eq (c := 42) (by decide)).1 e)), beq_eq_false_iff_ne.2 (show (i : Int) ≠ (p.size : Int) by omega), beq_eq_false_iff_ne.2 h]
      rfl
def starI : Option (Nat × Nat) → Int
  | none => -1
  | some p => (p.1 : Int)
def backN : Option (Nat × Nat) → Nat
  | none => 0
  | some p => p.2
def MatAt (P S : List UInt8) (st : Option (Nat × Nat)) (i k : Nat) : Prop := i ≤ P.length ∧ k ≤ S.length ∧ match st with
  | none => i = k ∧ litAt P S i
  | some (a, b) => ∃ j, i = a + 1 + j ∧ k = b + j ∧ litAt (P.drop (a + 1)) (S.drop b) j ∧ (Mt P S ↔ Mt (42 :: P.drop (a + 1)) (S.drop b))
theorem back_le {P S : List UInt8} {st : Option (Nat × Nat)} {i k : Nat} (h : MatAt P S st i k) : backN st ≤ k := by
  obtain ⟨h1, h2, h3⟩ := h
  cases st with
  | none => exact Nat.zero_le _
  | some p =>
    obtain ⟨a, b⟩ := p
    obtain ⟨j, _, e, _⟩ := h3
    show b ≤ k
    omega
theorem step_star {P S : List UInt8} {st : Option (Nat × Nat)} {i k : Nat} (h : MatAt P S st i k) (hs : P[i]? = some 42) : MatAt P S (some (i, k)) (i + 1) k := by
  obtain ⟨h1, h2, h3⟩ := h
  obtain ⟨hi, hi2⟩ := List.getElem?_eq_some_iff.1 hs
  have hd : P.drop i = 42 :: P.drop (i + 1) := by rw [List.drop_eq_getElem_cons hi, hi2]
  refine ⟨hi, h2, 0, rfl, rfl, trivial, ?_⟩
  rw [← hd]
  cases st with
  | none =>
    obtain ⟨rfl, hl⟩ := h3
    exact lit_go hl
  | some p =>
    obtain ⟨a, b⟩ := p
    obtain ⟨j, rfl, rfl, hl, hE⟩ := h3
    have h4 := lit_star hl (by rw [List.getElem?_drop]; exact hs)
    rw [List.drop_drop, List.drop_drop] at h4
    exact hE.trans h4
theorem step_fit {P S : List UInt8} {st : Option (Nat × Nat)} {i k : Nat} {c x : UInt8} (h : MatAt P S st i k) (hp : P[i]? = some c) (hs : S[k]? = some x) (hc : c ≠ 42) (hx : c = 63 ∨ c = x) : MatAt P S st (i + 1) (k + 1) := by
  obtain ⟨h1, h2, h3⟩ := h
  refine ⟨(List.getElem?_eq_some_iff.1 hp).1, (List.getElem?_eq_some_iff.1 hs).1, ?_⟩
  cases st with
  | none =>
    obtain ⟨rfl, hl⟩ := h3
    exact ⟨rfl, lit_succ hl hp hs hc hx⟩
  | some p =>
    obtain ⟨a, b⟩ := p
    obtain ⟨j, rfl, rfl, hl, hE⟩ := h3
    exact ⟨j + 1, rfl, rfl, lit_succ hl (by rw [List.getElem?_drop]; exact hp) (by rw [List.getElem?_drop]; exact hs) hc hx, hE⟩
theorem miss_none {P S : List UInt8} {i k : Nat} (h : MatAt P S none i k) (hm : ¬ Mt (P.drop i) (S.drop k)) : ¬ Mt P S := by
  obtain ⟨h1, h2, rfl, hl⟩ := h
  exact fun e => hm ((lit_go hl).1 e)
theorem miss_some {P S : List UInt8} {a b i k : Nat} (h : MatAt P S (some (a, b)) i k) (hk : k < S.length) (hm : ¬ Mt (P.drop i) (S.drop k)) : MatAt P S (some (a, b + 1)) (a + 1) (b + 1) := by
  obtain ⟨h1, h2, j, rfl, rfl, hl, hE⟩ := h
  refine ⟨by omega, by omega, 0, rfl, rfl, trivial, ?_⟩
  rw [hE]
  have h7 := lit_miss hl (by rw [List.length_drop]; omega) (by rw [List.drop_drop, List.drop_drop]; exact hm)
  rw [List.drop_drop] at h7
  exact h7
theorem end_stars {P S : List UInt8} {st : Option (Nat × Nat)} {i k : Nat} (h : MatAt P S st i k) (hk : k = S.length) : Mt P S ↔ ∀ c ∈ P.drop i, c = 42 := by
  obtain ⟨h1, h2, h3⟩ := h
  cases st with
  | none =>
    obtain ⟨rfl, hl⟩ := h3
    rw [lit_go hl, List.drop_of_length_le (show S.length ≤ i by omega), Mt.stars]
  | some p =>
    obtain ⟨a, b⟩ := p
    obtain ⟨j, rfl, rfl, hl, hE⟩ := h3
    have h9 := lit_end hl (by rw [List.length_drop]; omega)
    rw [List.drop_drop] at h9
    exact hE.trans h9
theorem all_stars {l : List UInt8} : l.all (· == 42) = true ↔ ∀ c ∈ l, c = 42 := by
  rw [List.all_eq_true]
  constructor
  · intro h c hc; simpa using h c hc
  · intro h c hc; simpa using h c hc
theorem bool_mat {b : Bool} {P S : List UInt8} (h : b = true ↔ Mt P S) : b = mat P S := by
  rw [Bool.eq_iff_iff, h, mat_iff]
def msr (n P b i : Nat) : Nat := (n + 1 - b) * (P + 2) + (P - i)
theorem msr_star {n P b k i : Nat} (hb : b ≤ k) (hi : i < P) : msr n P k (i + 1) < msr n P b i := by
  unfold msr
  have h3 : (n + 1 - k) * (P + 2) ≤ (n + 1 - b) * (P + 2) := Nat.mul_le_mul_right _ (by omega)
  omega
theorem msr_miss {n P b i j : Nat} (hb : b < n + 1) : msr n P (b + 1) j < msr n P b i := by
  unfold msr
  have h8 : (n + 1 - b) * (P + 2) = (n + 1 - (b + 1)) * (P + 2) + (P + 2) := by
    rw [show n + 1 - b = (n + 1 - (b + 1)) + 1 by omega, Nat.succ_mul]
  omega
theorem msr_pos {n P b i : Nat} (hb : b < n + 1) : 0 < msr n P b i := Nat.lt_of_le_of_lt (Nat.zero_le _) (msr_miss (j := 0) hb)
theorem wrap_one (n : Nat) (h : n < 9223372036854775807) : wrap64 ((n : Int) + 1) = ((n + 1 : Nat) : Int) := by
  rw [wrap_in (by omega) (by omega)]
  omega
theorem match_miss (p s : ByteArray) (hp : p.size ≤ 1048576) (hs : s.size ≤ 1048576) (m f : Nat) (st : Option (Nat × Nat)) (i k : Nat) (h : MatAt (bl p) (bl s) st i k) (hk : k < s.size) (hm : ¬ Mt ((bl p).drop i) ((bl s).drop k))
    (hmsr : msr s.size p.size (backN st) i ≤ m + 1) (ih : ∀ st i k, MatAt (bl p) (bl s) st i k → msr s.size p.size (backN st) i ≤ m → Q14.glob_Match.l0 f p s (i : Int) (starI st) (backN st : Int) (k : Int) = some (mat (bl p) (bl s))) :
    Q14.glob_Match.j2 (f + 1) p s (i : Int) (starI st) (backN st : Int) (k : Int) false = some (mat (bl p) (bl s)) := by
  rw [Q14.glob_Match.j2, if_neg (by decide)]
  cases st with
  | none =>
    rw [if_neg (show ¬ starI none ≥ 0 by decide)]
    congr 1
    exact bool_mat ⟨fun e => (by cases e), fun e => absurd e (miss_none h hm)⟩
  | some q =>
    obtain ⟨a, b⟩ := q
    have hsl := bl_len s
    have hpl := bl_len p
    have h2 := miss_some h (by omega) hm
    have hb : b ≤ k := back_le h
    have g1 := h2.1
    have g2 := h2.2.1
    have hlt : msr s.size p.size (b + 1) (a + 1) < msr s.size p.size b i := msr_miss (by omega)
    have hle : msr s.size p.size b i ≤ m + 1 := hmsr
    have h3 := ih (some (a, b + 1)) (a + 1) (b + 1) h2 (Nat.le_of_lt_succ (Nat.lt_of_lt_of_le hlt hle))
    rw [if_pos (show starI (some (a, b)) ≥ 0 from Int.natCast_nonneg a)]
    show Q14.glob_Match.l0 f p s (wrap64 ((a : Int) + 1)) (a : Int) (wrap64 ((b : Int) + 1)) (wrap64 ((b : Int) + 1)) = _
    rw [wrap_one a (by omega), wrap_one b (by omega)]
    exact h3
theorem match_loop (p s : ByteArray) (hp : p.size ≤ 1048576) (hs : s.size ≤ 1048576) : ∀ (m : Nat) (st : Option (Nat × Nat)) (i k f : Nat), MatAt (bl p) (bl s) st i k → msr s.size p.size (backN st) i ≤ m → 3 * m + p.size + 5 ≤ f →
    Q14.glob_Match.l0 f p s (i : Int) (starI st) (backN st : Int) (k : Int) = some (mat (bl p) (bl s)) := by
  have hpl := bl_len p
  have hsl := bl_len s
  intro m
  induction m with
  | zero =>
    intro st i k f hinv hm hf
    have h1 := back_le hinv
    have h2 := hinv.2.1
    have h3 : 0 < msr s.size p.size (backN st) i := msr_pos (by omega)
    exact absurd hm (Nat.not_le_of_lt h3)
  | succ m ih =>
    intro st i k f hinv hm hf
    obtain ⟨f, rfl⟩ : ∃ g, f = g + 3 := ⟨f - 3, by omega⟩
    have hi := hinv.1
    have hk := hinv.2.1
    rw [hpl] at hi
    rw [hsl] at hk
    rw [Q14.glob_Match.l0]
    by_cases hks : k < s.size
    · rw [if_pos (show (k : Int) < (s.size : Int) by omega)]
      obtain ⟨y, hy1, hy2, hyd⟩ := bt_bl s k hks
      by_cases hip : i < p.size
      · obtain ⟨c, hc1, hc2, hcd⟩ := bt_bl p i hip
        rw [if_pos (show (i : Int) < (p.size : Int) by omega), if_pos (Int.natCast_nonneg i), hc2]
        by_cases h42 : c = 42
        · have e : ((c.toNat : Int) == 42) = true := beq_iff_eq.2 ((byte_eq (c := 42) (by decide)).2 h42)
          have h2 := step_star hinv (by rw [hc1, h42])
          have hlt := msr_star (n := s.size) (back_le hinv) hip
          have h3 := ih (some (i, k)) (i + 1) k (f + 1) h2 (Nat.le_of_lt_succ (Nat.lt_of_lt_of_le hlt hm)) (by omega)
          rw [e, Q14.glob_Match.j1, if_pos rfl, wrap_one i (by omega)]
          exact h3
        · have e : ((c.toNat : Int) == 42) = false := beq_eq_false_iff_ne.2 fun e => h42 ((byte_eq (c := 42) (by decide)).1 e)
          rw [e, Q14.glob_Match.j1, if_neg (show ¬ (false = true) by decide), if_pos (show (i : Int) < (p.size : Int) by omega), if_pos (Int.natCast_nonneg i), hc2]
          have hfit : (if (c.toNat : Int) = 63 then Q14.glob_Match.j2 (f + 1) p s (i : Int) (starI st) (backN st : Int) (k : Int) true else if 0 ≤ (k : Int) then if (k : Int) < (s.size : Int) then Q14.glob_Match.j2 (f + 1) p s (i : Int) (starI st) (backN st : Int) (k : Int) ((c.toNat : Int) == bt s (k : Int)) else none else none) = Q14.glob_Match.j2 (f + 1) p s (i : Int) (starI st) (backN st : Int) (k : Int) (decide (c = 63 ∨ c = y)) := by
            by_cases h63 : c = 63
            · rw [if_pos ((byte_eq (c := 63) (by decide)).2 h63), decide_eq_true (.inl h63)]
            · rw [if_neg (fun e => h63 ((byte_eq (c := 63) (by decide)).1 e)), if_pos (Int.natCast_nonneg k), if_pos (show (k : Int) < (s.size : Int) by omega), hy2]
              by_cases hcy : c = y
              · rw [decide_eq_true (.inr hcy), hcy, beq_self_eq_true]
              · rw [decide_eq_false (show ¬ (c = 63 ∨ c = y) from fun h => h.elim h63 hcy), beq_eq_false_iff_ne.2 (fun e => hcy ((byte_eq (c := y) rfl).1 e))]
          rw [hfit]
          by_cases hfi : c = 63 ∨ c = y
          · have h2 := step_fit hinv hc1 hy1 h42 hfi
            have hlt := msr_star (n := s.size) (b := backN st) (Nat.le_refl _) hip
            have h3 := ih st (i + 1) (k + 1) f h2 (Nat.le_of_lt_succ (Nat.lt_of_lt_of_le hlt hm)) (by omega)
            rw [decide_eq_true hfi, Q14.glob_Match.j2, if_pos rfl, wrap_one i (by omega), wrap_one k (by omega)]
            exact h3
          · rw [decide_eq_false hfi]
            refine match_miss p s hp hs m f st i k hinv hks ?_ hm (fun st i k h1 h2 => ih st i k f h1 h2 (by omega))
            rw [hcd, hyd]
            refine mt_miss (x := y) rfl fun c' hc' => ?_
            simp at hc'
            subst hc'
            exact ⟨h42, hfi⟩
      · rw [if_neg (show ¬ (i : Int) < (p.size : Int) by omega), Q14.glob_Match.j1, if_neg (show ¬ (false = true) by decide), if_neg (show ¬ (i : Int) < (p.size : Int) by omega)]
        refine match_miss p s hp hs m f st i k hinv hks ?_ hm (fun st i k h1 h2 => ih st i k f h1 h2 (by omega))
        rw [List.drop_of_length_le (show (bl p).length ≤ i by omega), hyd]
        intro h
        cases h
    · have hke : k = s.size := by omega
      rw [if_neg (show ¬ (k : Int) < (s.size : Int) by omega), stars_loop p hp _ i (f + 2) rfl hi (by omega)]
      congr 1
      refine bool_mat ?_
      rw [all_stars]
      exact (end_stars hinv (by omega)).symm
theorem matchR_eq (p s : ByteArray) (hp : p.size ≤ 1048576) (hs : s.size ≤ 1048576) : ∃ k, Q14.glob_Match.f k p s = some (mat (bl p) (bl s)) :=
  ⟨_, match_loop p s hp hs _ none 0 0 _ ⟨Nat.zero_le _, Nat.zero_le _, rfl, trivial⟩ (Nat.le_refl _) (Nat.le_refl _)⟩
def glob_Match.f (p s : ByteArray) : Option Bool := if p.size ≤ 1048576 ∧ s.size ≤ 1048576 then some (mat (bl p) (bl s)) else none
theorem glob_Match.calls (a0 : ByteArray) (a1 : ByteArray) (r : Bool) (w : World) (h : glob_Match.f a0 a1 = some r) :
    Calls Tryd.prog 66 #[.string a0, .string a1] w fun e w' => e = .returned (.bool r) ∧ Drawn0 w w' := by
  unfold glob_Match.f at h
  split at h
  · rename_i hs
    obtain ⟨k, hk⟩ := matchR_eq a0 a1 hs.1 hs.2
    exact Q14.glob_Match.calls k a0 a1 r w (hk.trans h)
  · cases h
end Go.Proofs.YtmlbfepibfobaaaDoor.Hand
end

section
namespace Go.Proofs.YtmlbfepibfobaaaDoor.Q15
open Go.RowKit Go.Proofs.YtmlbfepibfobaaaDoorW.PrintWords Go.Proofs.YtmlbfepibfobaaaDoorW.PrintLast Go.Proofs.YtmlbfepibfobaaaDoorW.PrintMore Go.Proofs.YtmlbfepibfobaaaDoor.Hand
attribute [local go_sem] max2_int min2_int max_two min_two max_three min_three max_four min_four   -- for this text's walks alone
set_option linter.unusedVariables false
set_option linter.unusedSimpArgs false
def errW : Option Int → Value
  | none => .nilIface
  | some c => .iface 0 (.int .i64 c)
theorem errW_none : errW none = .nilIface := rfl
theorem errW_some (c : Int) : errW (some c) = .iface 0 (.int .i64 c) := rfl
theorem info9 : (Tryd.prog.info? 9).map (fun i => (i.zero, i.size, i.bytes)) = some (some (.string ⟨#[]⟩), 1, 16) := by kernel_rfl
theorem info66 : (Tryd.prog.info? 66).map (fun i => (i.zero, i.size, i.bytes)) = some (some (.agg #[(.bool false), (.bool false), (.string ⟨#[]⟩), (.string ⟨#[]⟩), (.string ⟨#[]⟩)]), 5, 56) := by kernel_rfl
end Go.Proofs.YtmlbfepibfobaaaDoor.Q15
end

section
namespace Go.Proofs.YtmlbfepibfobaaaDoor.Q15
open Go.RowKit Go.Proofs.YtmlbfepibfobaaaDoorW.PrintWords Go.Proofs.YtmlbfepibfobaaaDoorW.PrintLast Go.Proofs.YtmlbfepibfobaaaDoorW.PrintMore Go.Proofs.YtmlbfepibfobaaaDoor.Hand
attribute [local go_sem] max2_int min2_int max_two min_two max_three min_three max_four min_four   -- for this text's walks alone
set_option linter.unusedVariables false
set_option linter.unusedSimpArgs false
end Go.Proofs.YtmlbfepibfobaaaDoor.Q15
end
