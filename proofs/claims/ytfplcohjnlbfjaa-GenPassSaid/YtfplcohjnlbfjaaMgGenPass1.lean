import Derived.Test.YtfplcohjnlbfjaaRows
import Derived.ProofKit
import Derived.JoinedCond
import Derived.KernelRfl
import Derived.Test.YtfplcohjnlbfjaaProg
import Derived.Below
import Derived.Deep.Draws
import Derived.Deep.AppendLies
import Derived.Maps.AppendAt
import Derived.OwnWalk
import Derived.Laws.BytesArg
import Derived.Laws.MakeOwn
import Derived.Laws.OwnMore
import Derived.Deep.OwnRows
import Derived.Tactics
import Derived.Lib.ConvBytes
import Derived.Laws.Slices
import Derived.WalkKit
import Derived.RowKit3
import Derived.Deep.LoopGhost
import Derived.Deep.QuietTactic
import Derived.BigQuiet
import Derived.WideLaws
import Derived.Deep.DeepCutAuto
import Derived.Deep.CutBlock
import Derived.Deep.RegionHeld3
import Derived.Laws.Rows
import Derived.Lib.AppendStr
import Derived.ArgAppend
import Derived.Laws.IdiomCopy
import Derived.OrdersHeld
import Derived.Laws.BitsLemmas
import Derived.RowKit
import Derived.Lib.Hide
import Derived.Laws.CopyOwn
import Derived.Test.YtfplcohjnlbfjaaMgGenPass0
import Derived.RangeFuncRecord
import Derived.RangeFuncBound
import Derived.RangeFuncNested
import Derived.RangeFuncCalls
import Derived.RangeFuncLeaves
import Derived.Shelf.Abstract
import Derived.Shelf.RegionOpen
import Derived.OwnWalkIn
import Derived.TacticsInMore
import Derived.LoopNIn
import Derived.LoopIn
import Derived.Maps.OwnIn
import Derived.Maps.OwnSet
import Derived.Maps.Views
import Derived.Maps.Keyed
import Derived.StringKeys
import Derived.RangeFuncBox
import Derived.BigRegionIn
import Derived.IntWalk
import Derived.Deep.RegionWith
import Derived.Deep.MidRow
section
namespace Go.Proofs.Ytfplcohjnlbfjaa.Hand
theorem seat_mayEnter : Try.prog.mayEnter = true := by kernel_rfl
theorem seat_lifts : Try.prog.liftsFinal = false := by kernel_rfl
theorem seat_make : Try.prog.make = some .cut := by kernel_rfl
end Go.Proofs.Ytfplcohjnlbfjaa.Hand
end

section
namespace Go.Proofs.Ytfplcohjnlbfjaa.Hand
open Go.RowKit Go.Proofs.YtfplcohjnlbfjaaW.PrintWords Go.Proofs.YtfplcohjnlbfjaaW.PrintLast Go.Proofs.YtfplcohjnlbfjaaW.PrintMore
set_option linter.unusedVariables false
structure S97 where
  f0 : Int
  f1 : ByteArray
def k97 : Kd S97 := Kd.iso (Kd.pair (Kd.int .i64) Kd.string) (fun x : S97 => (x.f0, x.f1))
structure S103 where
  f0 : ByteArray
  f1 : S97
  f2 : Bool
def k103 : Kd S103 := Kd.iso (Kd.pair Kd.string (Kd.pair k97 Kd.bool)) (fun x : S103 => (x.f0, x.f1, x.f2))
structure S74 where
  f0 : Int
  f1 : Int
  f2 : Int
  f3 : Int
  f4 : Int
  f5 : ByteArray
  f6 : ByteArray
  f7 : ByteArray
  f8 : (List Int)
def z74 : S74 := ⟨(0 : Int), (0 : Int), (0 : Int), (0 : Int), (0 : Int), (⟨#[]⟩ : ByteArray), (⟨#[]⟩ : ByteArray), (⟨#[]⟩ : ByteArray), ([] : List Int)⟩
def k74 : Kd S74 := Kd.iso (Kd.pair (Kd.int .i64) (Kd.pair (Kd.int .i64) (Kd.pair (Kd.int .i64) (Kd.pair (Kd.int .i64) (Kd.pair (Kd.int .i64) (Kd.pair Kd.string (Kd.pair Kd.string (Kd.pair Kd.string (Kd.slice 3 (Kd.int .i64)))))))))) (fun x : S74 => (x.f0, x.f1, x.f2, x.f3, x.f4, x.f5, x.f6, x.f7, x.f8))
theorem k74_open {w : World} {x : S74} {cs : List Value} (h : k74.K w x cs) : ∃ A8 c8, cs = [.int .i64 x.f0, .int .i64 x.f1, .int .i64 x.f2, .int .i64 x.f3, .int .i64 x.f4, .string x.f5, .string x.f6, .string x.f7, .slice A8 x.f8.length c8] ∧ x.f8.length ≤ c8 ∧ (Kd.int .i64).C w A8 x.f8.length x.f8 := by
  obtain ⟨_, _, rfl, rfl, ⟨_, _, rfl, rfl, ⟨_, _, rfl, rfl, ⟨_, _, rfl, rfl, ⟨_, _, rfl, rfl, ⟨_, _, rfl, rfl, ⟨_, _, rfl, rfl, ⟨_, _, rfl, rfl, ⟨A8, c8, rfl, l8, g8⟩⟩⟩⟩⟩⟩⟩⟩⟩ := h
  exact ⟨A8, c8, rfl, l8, g8⟩
theorem k74_mk (w : World) (x : S74) {A8 : Option Addr} {c8 : Nat} (l8 : x.f8.length ≤ c8) (g8 : (Kd.int .i64).C w A8 x.f8.length x.f8) : k74.K w x [.int .i64 x.f0, .int .i64 x.f1, .int .i64 x.f2, .int .i64 x.f3, .int .i64 x.f4, .string x.f5, .string x.f6, .string x.f7, .slice A8 x.f8.length c8] := ⟨[.int .i64 x.f0], [.int .i64 x.f1, .int .i64 x.f2, .int .i64 x.f3, .int .i64 x.f4, .string x.f5, .string x.f6, .string x.f7, .slice A8 x.f8.length c8], rfl, rfl, ⟨[.int .i64 x.f1], [.int .i64 x.f2, .int .i64 x.f3, .int .i64 x.f4, .string x.f5, .string x.f6, .string x.f7, .slice A8 x.f8.length c8], rfl, rfl, ⟨[.int .i64 x.f2], [.int .i64 x.f3, .int .i64 x.f4, .string x.f5, .string x.f6, .string x.f7, .slice A8 x.f8.length c8], rfl, rfl, ⟨[.int .i64 x.f3], [.int .i64 x.f4, .string x.f5, .string x.f6, .string x.f7, .slice A8 x.f8.length c8], rfl, rfl, ⟨[.int .i64 x.f4], [.string x.f5, .string x.f6, .string x.f7, .slice A8 x.f8.length c8], rfl, rfl, ⟨[.string x.f5], [.string x.f6, .string x.f7, .slice A8 x.f8.length c8], rfl, rfl, ⟨[.string x.f6], [.string x.f7, .slice A8 x.f8.length c8], rfl, rfl, ⟨[.string x.f7], [.slice A8 x.f8.length c8], rfl, rfl, ⟨A8, c8, rfl, l8, g8⟩⟩⟩⟩⟩⟩⟩⟩⟩
def rd_T74 (xs : List S74) (i : Int) : S74 := xs.getD i.toNat z74
theorem at_T74 {w : World} {A : Option Addr} {n : Nat} {xs : List S74} (h : Kd.C k74 w A n xs) (i : Int) (h0 : 0 ≤ i) (h1 : i < n) : ∃ ad A8 c8, A = some ad ∧ w.cell? (ad.add (i.toNat * 9)) = some (.int .i64 (rd_T74 xs i).f0) ∧ w.cell? ⟨(ad.add (i.toNat * 9)).block, (ad.add (i.toNat * 9)).off + 1, none⟩ = some (.int .i64 (rd_T74 xs i).f1) ∧ w.cell? ⟨(ad.add (i.toNat * 9)).block, (ad.add (i.toNat * 9)).off + 2, none⟩ = some (.int .i64 (rd_T74 xs i).f2) ∧ w.cell? ⟨(ad.add (i.toNat * 9)).block, (ad.add (i.toNat * 9)).off + 3, none⟩ = some (.int .i64 (rd_T74 xs i).f3) ∧ w.cell? ⟨(ad.add (i.toNat * 9)).block, (ad.add (i.toNat * 9)).off + 4, none⟩ = some (.int .i64 (rd_T74 xs i).f4) ∧ w.cell? ⟨(ad.add (i.toNat * 9)).block, (ad.add (i.toNat * 9)).off + 5, none⟩ = some (.string (rd_T74 xs i).f5) ∧ w.cell? ⟨(ad.add (i.toNat * 9)).block, (ad.add (i.toNat * 9)).off + 6, none⟩ = some (.string (rd_T74 xs i).f6) ∧ w.cell? ⟨(ad.add (i.toNat * 9)).block, (ad.add (i.toNat * 9)).off + 7, none⟩ = some (.string (rd_T74 xs i).f7) ∧ w.cell? ⟨(ad.add (i.toNat * 9)).block, (ad.add (i.toNat * 9)).off + 8, none⟩ = some (.slice A8 (rd_T74 xs i).f8.length c8) ∧ (rd_T74 xs i).f8.length ≤ c8 ∧ (Kd.int .i64).C w A8 (rd_T74 xs i).f8.length (rd_T74 xs i).f8 := by
  obtain ⟨ad, c, e, _, hK, hc0⟩ := Kd.C_get h z74 i h0 h1
  have hc : ∀ j u, c[j]? = some u → w.cell? (ad.add (i.toNat * 9 + j)) = some u := hc0
  obtain ⟨A8, c8, rfl, l8, g8⟩ := k74_open hK
  exact ⟨ad, A8, c8, e, hc 0 _ rfl, by rw [← add_field _ _ 1 (by omega)]; exact hc 1 _ rfl, by rw [← add_field _ _ 2 (by omega)]; exact hc 2 _ rfl, by rw [← add_field _ _ 3 (by omega)]; exact hc 3 _ rfl, by rw [← add_field _ _ 4 (by omega)]; exact hc 4 _ rfl, by rw [← add_field _ _ 5 (by omega)]; exact hc 5 _ rfl, by rw [← add_field _ _ 6 (by omega)]; exact hc 6 _ rfl, by rw [← add_field _ _ 7 (by omega)]; exact hc 7 _ rfl, by rw [← add_field _ _ 8 (by omega)]; exact hc 8 _ rfl, l8, g8⟩
structure S37 where
  f0 : ByteArray
  f1 : ByteArray
  f2 : Bool
  f3 : Bool
  f4 : Int
  f5 : (List S74)
def z37 : S37 := ⟨(⟨#[]⟩ : ByteArray), (⟨#[]⟩ : ByteArray), false, false, (0 : Int), ([] : List S74)⟩
def k37 : Kd S37 := Kd.iso (Kd.pair Kd.string (Kd.pair Kd.string (Kd.pair Kd.bool (Kd.pair Kd.bool (Kd.pair (Kd.int .i64) (Kd.slice 74 k74)))))) (fun x : S37 => (x.f0, x.f1, x.f2, x.f3, x.f4, x.f5))
theorem k37_open {w : World} {x : S37} {cs : List Value} (h : k37.K w x cs) : ∃ A5 c5, cs = [.string x.f0, .string x.f1, .bool x.f2, .bool x.f3, .int .i64 x.f4, .slice A5 x.f5.length c5] ∧ x.f5.length ≤ c5 ∧ k74.C w A5 x.f5.length x.f5 := by
  obtain ⟨_, _, rfl, rfl, ⟨_, _, rfl, rfl, ⟨_, _, rfl, rfl, ⟨_, _, rfl, rfl, ⟨_, _, rfl, rfl, ⟨A5, c5, rfl, l5, g5⟩⟩⟩⟩⟩⟩ := h
  exact ⟨A5, c5, rfl, l5, g5⟩
theorem k37_mk (w : World) (x : S37) {A5 : Option Addr} {c5 : Nat} (l5 : x.f5.length ≤ c5) (g5 : k74.C w A5 x.f5.length x.f5) : k37.K w x [.string x.f0, .string x.f1, .bool x.f2, .bool x.f3, .int .i64 x.f4, .slice A5 x.f5.length c5] := ⟨[.string x.f0], [.string x.f1, .bool x.f2, .bool x.f3, .int .i64 x.f4, .slice A5 x.f5.length c5], rfl, rfl, ⟨[.string x.f1], [.bool x.f2, .bool x.f3, .int .i64 x.f4, .slice A5 x.f5.length c5], rfl, rfl, ⟨[.bool x.f2], [.bool x.f3, .int .i64 x.f4, .slice A5 x.f5.length c5], rfl, rfl, ⟨[.bool x.f3], [.int .i64 x.f4, .slice A5 x.f5.length c5], rfl, rfl, ⟨[.int .i64 x.f4], [.slice A5 x.f5.length c5], rfl, rfl, ⟨A5, c5, rfl, l5, g5⟩⟩⟩⟩⟩⟩
def rd_T37 (xs : List S37) (i : Int) : S37 := xs.getD i.toNat z37
theorem at_T37 {w : World} {A : Option Addr} {n : Nat} {xs : List S37} (h : Kd.C k37 w A n xs) (i : Int) (h0 : 0 ≤ i) (h1 : i < n) : ∃ ad A5 c5, A = some ad ∧ w.cell? (ad.add (i.toNat * 6)) = some (.string (rd_T37 xs i).f0) ∧ w.cell? ⟨(ad.add (i.toNat * 6)).block, (ad.add (i.toNat * 6)).off + 1, none⟩ = some (.string (rd_T37 xs i).f1) ∧ w.cell? ⟨(ad.add (i.toNat * 6)).block, (ad.add (i.toNat * 6)).off + 2, none⟩ = some (.bool (rd_T37 xs i).f2) ∧ w.cell? ⟨(ad.add (i.toNat * 6)).block, (ad.add (i.toNat * 6)).off + 3, none⟩ = some (.bool (rd_T37 xs i).f3) ∧ w.cell? ⟨(ad.add (i.toNat * 6)).block, (ad.add (i.toNat * 6)).off + 4, none⟩ = some (.int .i64 (rd_T37 xs i).f4) ∧ w.cell? ⟨(ad.add (i.toNat * 6)).block, (ad.add (i.toNat * 6)).off + 5, none⟩ = some (.slice A5 (rd_T37 xs i).f5.length c5) ∧ (rd_T37 xs i).f5.length ≤ c5 ∧ k74.C w A5 (rd_T37 xs i).f5.length (rd_T37 xs i).f5 := by
  obtain ⟨ad, c, e, _, hK, hc0⟩ := Kd.C_get h z37 i h0 h1
  have hc : ∀ j u, c[j]? = some u → w.cell? (ad.add (i.toNat * 6 + j)) = some u := hc0
  obtain ⟨A5, c5, rfl, l5, g5⟩ := k37_open hK
  exact ⟨ad, A5, c5, e, hc 0 _ rfl, by rw [← add_field _ _ 1 (by omega)]; exact hc 1 _ rfl, by rw [← add_field _ _ 2 (by omega)]; exact hc 2 _ rfl, by rw [← add_field _ _ 3 (by omega)]; exact hc 3 _ rfl, by rw [← add_field _ _ 4 (by omega)]; exact hc 4 _ rfl, by rw [← add_field _ _ 5 (by omega)]; exact hc 5 _ rfl, l5, g5⟩
structure S33 where
  f0 : ByteArray
  f1 : ByteArray
  f2 : Bool
  f3 : Bool
  f4 : (List ByteArray)
  f5 : (List S103)
  f6 : (List S37)
def z33 : S33 := ⟨(⟨#[]⟩ : ByteArray), (⟨#[]⟩ : ByteArray), false, false, ([] : List ByteArray), ([] : List S103), ([] : List S37)⟩
def k33 : Kd S33 := Kd.iso (Kd.pair Kd.string (Kd.pair Kd.string (Kd.pair Kd.bool (Kd.pair Kd.bool (Kd.pair (Kd.slice 9 Kd.string) (Kd.pair (Kd.slice 103 k103) (Kd.slice 37 k37))))))) (fun x : S33 => (x.f0, x.f1, x.f2, x.f3, x.f4, x.f5, x.f6))
theorem k33_open {w : World} {x : S33} {cs : List Value} (h : k33.K w x cs) : ∃ A4 c4 A5 c5 A6 c6, cs = [.string x.f0, .string x.f1, .bool x.f2, .bool x.f3, .slice A4 x.f4.length c4, .slice A5 x.f5.length c5, .slice A6 x.f6.length c6] ∧ x.f4.length ≤ c4 ∧ Kd.string.C w A4 x.f4.length x.f4 ∧ x.f5.length ≤ c5 ∧ k103.C w A5 x.f5.length x.f5 ∧ x.f6.length ≤ c6 ∧ k37.C w A6 x.f6.length x.f6 := by
  obtain ⟨_, _, rfl, rfl, ⟨_, _, rfl, rfl, ⟨_, _, rfl, rfl, ⟨_, _, rfl, rfl, ⟨_, _, rfl, ⟨A4, c4, rfl, l4, g4⟩, ⟨_, _, rfl, ⟨A5, c5, rfl, l5, g5⟩, ⟨A6, c6, rfl, l6, g6⟩⟩⟩⟩⟩⟩⟩ := h
  exact ⟨A4, c4, A5, c5, A6, c6, rfl, l4, g4, l5, g5, l6, g6⟩
theorem k33_mk (w : World) (x : S33) {A4 : Option Addr} {c4 : Nat} (l4 : x.f4.length ≤ c4) (g4 : Kd.string.C w A4 x.f4.length x.f4) {A5 : Option Addr} {c5 : Nat} (l5 : x.f5.length ≤ c5) (g5 : k103.C w A5 x.f5.length x.f5) {A6 : Option Addr} {c6 : Nat} (l6 : x.f6.length ≤ c6) (g6 : k37.C w A6 x.f6.length x.f6) : k33.K w x [.string x.f0, .string x.f1, .bool x.f2, .bool x.f3, .slice A4 x.f4.length c4, .slice A5 x.f5.length c5, .slice A6 x.f6.length c6] := ⟨[.string x.f0], [.string x.f1, .bool x.f2, .bool x.f3, .slice A4 x.f4.length c4, .slice A5 x.f5.length c5, .slice A6 x.f6.length c6], rfl, rfl, ⟨[.string x.f1], [.bool x.f2, .bool x.f3, .slice A4 x.f4.length c4, .slice A5 x.f5.length c5, .slice A6 x.f6.length c6], rfl, rfl, ⟨[.bool x.f2], [.bool x.f3, .slice A4 x.f4.length c4, .slice A5 x.f5.length c5, .slice A6 x.f6.length c6], rfl, rfl, ⟨[.bool x.f3], [.slice A4 x.f4.length c4, .slice A5 x.f5.length c5, .slice A6 x.f6.length c6], rfl, rfl, ⟨[.slice A4 x.f4.length c4], [.slice A5 x.f5.length c5, .slice A6 x.f6.length c6], rfl, ⟨A4, c4, rfl, l4, g4⟩, ⟨[.slice A5 x.f5.length c5], [.slice A6 x.f6.length c6], rfl, ⟨A5, c5, rfl, l5, g5⟩, ⟨A6, c6, rfl, l6, g6⟩⟩⟩⟩⟩⟩⟩
def rd_T33 (xs : List S33) (i : Int) : S33 := xs.getD i.toNat z33
theorem at_T33 {w : World} {A : Option Addr} {n : Nat} {xs : List S33} (h : Kd.C k33 w A n xs) (i : Int) (h0 : 0 ≤ i) (h1 : i < n) : ∃ ad A4 c4 A5 c5 A6 c6, A = some ad ∧ w.cell? (ad.add (i.toNat * 7)) = some (.string (rd_T33 xs i).f0) ∧ w.cell? ⟨(ad.add (i.toNat * 7)).block, (ad.add (i.toNat * 7)).off + 1, none⟩ = some (.string (rd_T33 xs i).f1) ∧ w.cell? ⟨(ad.add (i.toNat * 7)).block, (ad.add (i.toNat * 7)).off + 2, none⟩ = some (.bool (rd_T33 xs i).f2) ∧ w.cell? ⟨(ad.add (i.toNat * 7)).block, (ad.add (i.toNat * 7)).off + 3, none⟩ = some (.bool (rd_T33 xs i).f3) ∧ w.cell? ⟨(ad.add (i.toNat * 7)).block, (ad.add (i.toNat * 7)).off + 4, none⟩ = some (.slice A4 (rd_T33 xs i).f4.length c4) ∧ w.cell? ⟨(ad.add (i.toNat * 7)).block, (ad.add (i.toNat * 7)).off + 5, none⟩ = some (.slice A5 (rd_T33 xs i).f5.length c5) ∧ w.cell? ⟨(ad.add (i.toNat * 7)).block, (ad.add (i.toNat * 7)).off + 6, none⟩ = some (.slice A6 (rd_T33 xs i).f6.length c6) ∧ (rd_T33 xs i).f4.length ≤ c4 ∧ Kd.string.C w A4 (rd_T33 xs i).f4.length (rd_T33 xs i).f4 ∧ (rd_T33 xs i).f5.length ≤ c5 ∧ k103.C w A5 (rd_T33 xs i).f5.length (rd_T33 xs i).f5 ∧ (rd_T33 xs i).f6.length ≤ c6 ∧ k37.C w A6 (rd_T33 xs i).f6.length (rd_T33 xs i).f6 := by
  obtain ⟨ad, c, e, _, hK, hc0⟩ := Kd.C_get h z33 i h0 h1
  have hc : ∀ j u, c[j]? = some u → w.cell? (ad.add (i.toNat * 7 + j)) = some u := hc0
  obtain ⟨A4, c4, A5, c5, A6, c6, rfl, l4, g4, l5, g5, l6, g6⟩ := k33_open hK
  exact ⟨ad, A4, c4, A5, c5, A6, c6, e, hc 0 _ rfl, by rw [← add_field _ _ 1 (by omega)]; exact hc 1 _ rfl, by rw [← add_field _ _ 2 (by omega)]; exact hc 2 _ rfl, by rw [← add_field _ _ 3 (by omega)]; exact hc 3 _ rfl, by rw [← add_field _ _ 4 (by omega)]; exact hc 4 _ rfl, by rw [← add_field _ _ 5 (by omega)]; exact hc 5 _ rfl, by rw [← add_field _ _ 6 (by omega)]; exact hc 6 _ rfl, l4, g4, l5, g5, l6, g6⟩
end Go.Proofs.Ytfplcohjnlbfjaa.Hand
end

section
namespace Go.Proofs.Ytfplcohjnlbfjaa.Hand
open Go.RowKit Go.Proofs.YtfplcohjnlbfjaaW.PrintWords Go.Proofs.YtfplcohjnlbfjaaW.PrintLast Go.Proofs.YtfplcohjnlbfjaaW.PrintMore
set_option linter.unusedVariables false
structure S25 where
  f0 : ByteArray
  f1 : ByteArray
  f2 : ByteArray
def z25 : S25 := ⟨(⟨#[]⟩ : ByteArray), (⟨#[]⟩ : ByteArray), (⟨#[]⟩ : ByteArray)⟩
def k25 : Kd S25 := Kd.iso (Kd.pair Kd.string (Kd.pair Kd.string Kd.string)) (fun x : S25 => (x.f0, x.f1, x.f2))
theorem k25_open {w : World} {x : S25} {cs : List Value} (h : k25.K w x cs) : cs = [.string x.f0, .string x.f1, .string x.f2] := by
  obtain ⟨_, _, rfl, rfl, ⟨_, _, rfl, rfl, rfl⟩⟩ := h
  exact rfl
theorem k25_mkM (w : World) (base : Nat) (ok : Nat → Prop) (x : S25)  : k25.M w base ok x [.string x.f0, .string x.f1, .string x.f2] := ⟨[.string x.f0], [.string x.f1, .string x.f2], rfl, rfl, ⟨[.string x.f1], [.string x.f2], rfl, rfl, rfl⟩⟩
structure S44 where
  f0 : ByteArray
  f1 : ByteArray
def z44 : S44 := ⟨(⟨#[]⟩ : ByteArray), (⟨#[]⟩ : ByteArray)⟩
def k44 : Kd S44 := Kd.iso (Kd.pair Kd.string Kd.string) (fun x : S44 => (x.f0, x.f1))
theorem k44_open {w : World} {x : S44} {cs : List Value} (h : k44.K w x cs) : cs = [.string x.f0, .string x.f1] := by
  obtain ⟨_, _, rfl, rfl, rfl⟩ := h
  exact rfl
theorem k44_mkM (w : World) (base : Nat) (ok : Nat → Prop) (x : S44)  : k44.M w base ok x [.string x.f0, .string x.f1] := ⟨[.string x.f0], [.string x.f1], rfl, rfl, rfl⟩
structure S46 where
  f0 : S25
  f1 : Int
  f2 : ByteArray
def z46 : S46 := ⟨z25, (0 : Int), (⟨#[]⟩ : ByteArray)⟩
def k46 : Kd S46 := Kd.iso (Kd.pair k25 (Kd.pair (Kd.int .i64) Kd.string)) (fun x : S46 => (x.f0, x.f1, x.f2))
theorem k46_open {w : World} {x : S46} {cs : List Value} (h : k46.K w x cs) : cs = [.string x.f0.f0, .string x.f0.f1, .string x.f0.f2, .int .i64 x.f1, .string x.f2] := by
  obtain ⟨_, _, rfl, s0, ⟨_, _, rfl, rfl, rfl⟩⟩ := h
  obtain rfl := k25_open s0
  exact rfl
theorem k46_mkM (w : World) (base : Nat) (ok : Nat → Prop) (x : S46)  : k46.M w base ok x [.string x.f0.f0, .string x.f0.f1, .string x.f0.f2, .int .i64 x.f1, .string x.f2] := ⟨[.string x.f0.f0, .string x.f0.f1, .string x.f0.f2], [.int .i64 x.f1, .string x.f2], rfl, (k25_mkM w base ok x.f0 ), ⟨[.int .i64 x.f1], [.string x.f2], rfl, rfl, rfl⟩⟩
structure S50 where
  f0 : Int
  f1 : S25
  f2 : Int
  f3 : S44
  f4 : S46
def z50 : S50 := ⟨(0 : Int), z25, (0 : Int), z44, z46⟩
def k50 : Kd S50 := Kd.iso (Kd.pair (Kd.int .i64) (Kd.pair k25 (Kd.pair (Kd.int .i64) (Kd.pair k44 k46)))) (fun x : S50 => (x.f0, x.f1, x.f2, x.f3, x.f4))
theorem k50_open {w : World} {x : S50} {cs : List Value} (h : k50.K w x cs) : cs = [.int .i64 x.f0, .string x.f1.f0, .string x.f1.f1, .string x.f1.f2, .int .i64 x.f2, .string x.f3.f0, .string x.f3.f1, .string x.f4.f0.f0, .string x.f4.f0.f1, .string x.f4.f0.f2, .int .i64 x.f4.f1, .string x.f4.f2] := by
  obtain ⟨_, _, rfl, rfl, ⟨_, _, rfl, s1, ⟨_, _, rfl, rfl, ⟨_, _, rfl, s5, s7⟩⟩⟩⟩ := h
  obtain rfl := k25_open s1
  obtain rfl := k44_open s5
  obtain rfl := k46_open s7
  exact rfl
theorem k50_mkM (w : World) (base : Nat) (ok : Nat → Prop) (x : S50)  : k50.M w base ok x [.int .i64 x.f0, .string x.f1.f0, .string x.f1.f1, .string x.f1.f2, .int .i64 x.f2, .string x.f3.f0, .string x.f3.f1, .string x.f4.f0.f0, .string x.f4.f0.f1, .string x.f4.f0.f2, .int .i64 x.f4.f1, .string x.f4.f2] := ⟨[.int .i64 x.f0], [.string x.f1.f0, .string x.f1.f1, .string x.f1.f2, .int .i64 x.f2, .string x.f3.f0, .string x.f3.f1, .string x.f4.f0.f0, .string x.f4.f0.f1, .string x.f4.f0.f2, .int .i64 x.f4.f1, .string x.f4.f2], rfl, rfl, ⟨[.string x.f1.f0, .string x.f1.f1, .string x.f1.f2], [.int .i64 x.f2, .string x.f3.f0, .string x.f3.f1, .string x.f4.f0.f0, .string x.f4.f0.f1, .string x.f4.f0.f2, .int .i64 x.f4.f1, .string x.f4.f2], rfl, (k25_mkM w base ok x.f1 ), ⟨[.int .i64 x.f2], [.string x.f3.f0, .string x.f3.f1, .string x.f4.f0.f0, .string x.f4.f0.f1, .string x.f4.f0.f2, .int .i64 x.f4.f1, .string x.f4.f2], rfl, rfl, ⟨[.string x.f3.f0, .string x.f3.f1], [.string x.f4.f0.f0, .string x.f4.f0.f1, .string x.f4.f0.f2, .int .i64 x.f4.f1, .string x.f4.f2], rfl, (k44_mkM w base ok x.f3 ), (k46_mkM w base ok x.f4 )⟩⟩⟩⟩
structure S60 where
  f0 : Int
  f1 : Int
  f2 : S50
  f3 : S50
  f4 : S46
  f5 : S44
  f6 : ByteArray
  f7 : S25
  f8 : (List Int)
def z60 : S60 := ⟨(0 : Int), (0 : Int), z50, z50, z46, z44, (⟨#[]⟩ : ByteArray), z25, ([] : List Int)⟩
def k60 : Kd S60 := Kd.iso (Kd.pair (Kd.int .i64) (Kd.pair (Kd.int .i64) (Kd.pair k50 (Kd.pair k50 (Kd.pair k46 (Kd.pair k44 (Kd.pair Kd.string (Kd.pair k25 (Kd.slice 3 (Kd.int .i64)))))))))) (fun x : S60 => (x.f0, x.f1, x.f2, x.f3, x.f4, x.f5, x.f6, x.f7, x.f8))
theorem k60_open {w : World} {x : S60} {cs : List Value} (h : k60.K w x cs) : ∃ A37 c37, cs = [.int .i64 x.f0, .int .i64 x.f1, .int .i64 x.f2.f0, .string x.f2.f1.f0, .string x.f2.f1.f1, .string x.f2.f1.f2, .int .i64 x.f2.f2, .string x.f2.f3.f0, .string x.f2.f3.f1, .string x.f2.f4.f0.f0, .string x.f2.f4.f0.f1, .string x.f2.f4.f0.f2, .int .i64 x.f2.f4.f1, .string x.f2.f4.f2, .int .i64 x.f3.f0, .string x.f3.f1.f0, .string x.f3.f1.f1, .string x.f3.f1.f2, .int .i64 x.f3.f2, .string x.f3.f3.f0, .string x.f3.f3.f1, .string x.f3.f4.f0.f0, .string x.f3.f4.f0.f1, .string x.f3.f4.f0.f2, .int .i64 x.f3.f4.f1, .string x.f3.f4.f2, .string x.f4.f0.f0, .string x.f4.f0.f1, .string x.f4.f0.f2, .int .i64 x.f4.f1, .string x.f4.f2, .string x.f5.f0, .string x.f5.f1, .string x.f6, .string x.f7.f0, .string x.f7.f1, .string x.f7.f2, .slice A37 x.f8.length c37] ∧ x.f8.length ≤ c37 ∧ (Kd.int .i64).C w A37 x.f8.length x.f8 := by
  obtain ⟨_, _, rfl, rfl, ⟨_, _, rfl, rfl, ⟨_, _, rfl, s2, ⟨_, _, rfl, s14, ⟨_, _, rfl, s26, ⟨_, _, rfl, s31, ⟨_, _, rfl, rfl, ⟨_, _, rfl, s34, ⟨A37, c37, rfl, l37, g37⟩⟩⟩⟩⟩⟩⟩⟩⟩ := h
  obtain rfl := k50_open s2
  obtain rfl := k50_open s14
  obtain rfl := k46_open s26
  obtain rfl := k44_open s31
  obtain rfl := k25_open s34
  exact ⟨A37, c37, rfl, l37, g37⟩
theorem k60_mkM (w : World) (base : Nat) (ok : Nat → Prop) (x : S60) {v37 : Value} (g37 : (Kd.int .i64).R 3 w base ok v37 x.f8) : k60.M w base ok x [.int .i64 x.f0, .int .i64 x.f1, .int .i64 x.f2.f0, .string x.f2.f1.f0, .string x.f2.f1.f1, .string x.f2.f1.f2, .int .i64 x.f2.f2, .string x.f2.f3.f0, .string x.f2.f3.f1, .string x.f2.f4.f0.f0, .string x.f2.f4.f0.f1, .string x.f2.f4.f0.f2, .int .i64 x.f2.f4.f1, .string x.f2.f4.f2, .int .i64 x.f3.f0, .string x.f3.f1.f0, .string x.f3.f1.f1, .string x.f3.f1.f2, .int .i64 x.f3.f2, .string x.f3.f3.f0, .string x.f3.f3.f1, .string x.f3.f4.f0.f0, .string x.f3.f4.f0.f1, .string x.f3.f4.f0.f2, .int .i64 x.f3.f4.f1, .string x.f3.f4.f2, .string x.f4.f0.f0, .string x.f4.f0.f1, .string x.f4.f0.f2, .int .i64 x.f4.f1, .string x.f4.f2, .string x.f5.f0, .string x.f5.f1, .string x.f6, .string x.f7.f0, .string x.f7.f1, .string x.f7.f2, v37] := ⟨[.int .i64 x.f0], [.int .i64 x.f1, .int .i64 x.f2.f0, .string x.f2.f1.f0, .string x.f2.f1.f1, .string x.f2.f1.f2, .int .i64 x.f2.f2, .string x.f2.f3.f0, .string x.f2.f3.f1, .string x.f2.f4.f0.f0, .string x.f2.f4.f0.f1, .string x.f2.f4.f0.f2, .int .i64 x.f2.f4.f1, .string x.f2.f4.f2, .int .i64 x.f3.f0, .string x.f3.f1.f0, .string x.f3.f1.f1, .string x.f3.f1.f2, .int .i64 x.f3.f2, .string x.f3.f3.f0, .string x.f3.f3.f1, .string x.f3.f4.f0.f0, .string x.f3.f4.f0.f1, .string x.f3.f4.f0.f2, .int .i64 x.f3.f4.f1, .string x.f3.f4.f2, .string x.f4.f0.f0, .string x.f4.f0.f1, .string x.f4.f0.f2, .int .i64 x.f4.f1, .string x.f4.f2, .string x.f5.f0, .string x.f5.f1, .string x.f6, .string x.f7.f0, .string x.f7.f1, .string x.f7.f2, v37], rfl, rfl, ⟨[.int .i64 x.f1], [.int .i64 x.f2.f0, .string x.f2.f1.f0, .string x.f2.f1.f1, .string x.f2.f1.f2, .int .i64 x.f2.f2, .string x.f2.f3.f0, .string x.f2.f3.f1, .string x.f2.f4.f0.f0, .string x.f2.f4.f0.f1, .string x.f2.f4.f0.f2, .int .i64 x.f2.f4.f1, .string x.f2.f4.f2, .int .i64 x.f3.f0, .string x.f3.f1.f0, .string x.f3.f1.f1, .string x.f3.f1.f2, .int .i64 x.f3.f2, .string x.f3.f3.f0, .string x.f3.f3.f1, .string x.f3.f4.f0.f0, .string x.f3.f4.f0.f1, .string x.f3.f4.f0.f2, .int .i64 x.f3.f4.f1, .string x.f3.f4.f2, .string x.f4.f0.f0, .string x.f4.f0.f1, .string x.f4.f0.f2, .int .i64 x.f4.f1, .string x.f4.f2, .string x.f5.f0, .string x.f5.f1, .string x.f6, .string x.f7.f0, .string x.f7.f1, .string x.f7.f2, v37], rfl, rfl, ⟨[.int .i64 x.f2.f0, .string x.f2.f1.f0, .string x.f2.f1.f1, .string x.f2.f1.f2, .int .i64 x.f2.f2, .string x.f2.f3.f0, .string x.f2.f3.f1, .string x.f2.f4.f0.f0, .string x.f2.f4.f0.f1, .string x.f2.f4.f0.f2, .int .i64 x.f2.f4.f1, .string x.f2.f4.f2], [.int .i64 x.f3.f0, .string x.f3.f1.f0, .string x.f3.f1.f1, .string x.f3.f1.f2, .int .i64 x.f3.f2, .string x.f3.f3.f0, .string x.f3.f3.f1, .string x.f3.f4.f0.f0, .string x.f3.f4.f0.f1, .string x.f3.f4.f0.f2, .int .i64 x.f3.f4.f1, .string x.f3.f4.f2, .string x.f4.f0.f0, .string x.f4.f0.f1, .string x.f4.f0.f2, .int .i64 x.f4.f1, .string x.f4.f2, .string x.f5.f0, .string x.f5.f1, .string x.f6, .string x.f7.f0, .string x.f7.f1, .string x.f7.f2, v37], rfl, (k50_mkM w base ok x.f2 ), ⟨[.int .i64 x.f3.f0, .string x.f3.f1.f0, .string x.f3.f1.f1, .string x.f3.f1.f2, .int .i64 x.f3.f2, .string x.f3.f3.f0, .string x.f3.f3.f1, .string x.f3.f4.f0.f0, .string x.f3.f4.f0.f1, .string x.f3.f4.f0.f2, .int .i64 x.f3.f4.f1, .string x.f3.f4.f2], [.string x.f4.f0.f0, .string x.f4.f0.f1, .string x.f4.f0.f2, .int .i64 x.f4.f1, .string x.f4.f2, .string x.f5.f0, .string x.f5.f1, .string x.f6, .string x.f7.f0, .string x.f7.f1, .string x.f7.f2, v37], rfl, (k50_mkM w base ok x.f3 ), ⟨[.string x.f4.f0.f0, .string x.f4.f0.f1, .string x.f4.f0.f2, .int .i64 x.f4.f1, .string x.f4.f2], [.string x.f5.f0, .string x.f5.f1, .string x.f6, .string x.f7.f0, .string x.f7.f1, .string x.f7.f2, v37], rfl, (k46_mkM w base ok x.f4 ), ⟨[.string x.f5.f0, .string x.f5.f1], [.string x.f6, .string x.f7.f0, .string x.f7.f1, .string x.f7.f2, v37], rfl, (k44_mkM w base ok x.f5 ), ⟨[.string x.f6], [.string x.f7.f0, .string x.f7.f1, .string x.f7.f2, v37], rfl, rfl, ⟨[.string x.f7.f0, .string x.f7.f1, .string x.f7.f2], [v37], rfl, (k25_mkM w base ok x.f7 ), ⟨v37, rfl, g37⟩⟩⟩⟩⟩⟩⟩⟩⟩
def rd_T60 (xs : List S60) (i : Int) : S60 := xs.getD i.toNat z60
theorem at_T60 {w : World} {A : Option Addr} {n : Nat} {xs : List S60} (h : Kd.C k60 w A n xs) (i : Int) (h0 : 0 ≤ i) (h1 : i < n) : ∃ ad A37 c37, A = some ad ∧ w.cell? (ad.add (i.toNat * 38)) = some (.int .i64 (rd_T60 xs i).f0) ∧ w.cell? ⟨(ad.add (i.toNat * 38)).block, (ad.add (i.toNat * 38)).off + 1, none⟩ = some (.int .i64 (rd_T60 xs i).f1) ∧ w.cell? ⟨(ad.add (i.toNat * 38)).block, (ad.add (i.toNat * 38)).off + 2, none⟩ = some (.int .i64 (rd_T60 xs i).f2.f0) ∧ w.cell? ⟨(ad.add (i.toNat * 38)).block, (ad.add (i.toNat * 38)).off + 3, none⟩ = some (.string (rd_T60 xs i).f2.f1.f0) ∧ w.cell? ⟨(ad.add (i.toNat * 38)).block, (ad.add (i.toNat * 38)).off + 4, none⟩ = some (.string (rd_T60 xs i).f2.f1.f1) ∧ w.cell? ⟨(ad.add (i.toNat * 38)).block, (ad.add (i.toNat * 38)).off + 5, none⟩ = some (.string (rd_T60 xs i).f2.f1.f2) ∧ w.cell? ⟨(ad.add (i.toNat * 38)).block, (ad.add (i.toNat * 38)).off + 6, none⟩ = some (.int .i64 (rd_T60 xs i).f2.f2) ∧ w.cell? ⟨(ad.add (i.toNat * 38)).block, (ad.add (i.toNat * 38)).off + 7, none⟩ = some (.string (rd_T60 xs i).f2.f3.f0) ∧ w.cell? ⟨(ad.add (i.toNat * 38)).block, (ad.add (i.toNat * 38)).off + 8, none⟩ = some (.string (rd_T60 xs i).f2.f3.f1) ∧ w.cell? ⟨(ad.add (i.toNat * 38)).block, (ad.add (i.toNat * 38)).off + 9, none⟩ = some (.string (rd_T60 xs i).f2.f4.f0.f0) ∧ w.cell? ⟨(ad.add (i.toNat * 38)).block, (ad.add (i.toNat * 38)).off + 10, none⟩ = some (.string (rd_T60 xs i).f2.f4.f0.f1) ∧ w.cell? ⟨(ad.add (i.toNat * 38)).block, (ad.add (i.toNat * 38)).off + 11, none⟩ = some (.string (rd_T60 xs i).f2.f4.f0.f2) ∧ w.cell? ⟨(ad.add (i.toNat * 38)).block, (ad.add (i.toNat * 38)).off + 12, none⟩ = some (.int .i64 (rd_T60 xs i).f2.f4.f1) ∧ w.cell? ⟨(ad.add (i.toNat * 38)).block, (ad.add (i.toNat * 38)).off + 13, none⟩ = some (.string (rd_T60 xs i).f2.f4.f2) ∧ w.cell? ⟨(ad.add (i.toNat * 38)).block, (ad.add (i.toNat * 38)).off + 14, none⟩ = some (.int .i64 (rd_T60 xs i).f3.f0) ∧ w.cell? ⟨(ad.add (i.toNat * 38)).block, (ad.add (i.toNat * 38)).off + 15, none⟩ = some (.string (rd_T60 xs i).f3.f1.f0) ∧ w.cell? ⟨(ad.add (i.toNat * 38)).block, (ad.add (i.toNat * 38)).off + 16, none⟩ = some (.string (rd_T60 xs i).f3.f1.f1) ∧ w.cell? ⟨(ad.add (i.toNat * 38)).block, (ad.add (i.toNat * 38)).off + 17, none⟩ = some (.string (rd_T60 xs i).f3.f1.f2) ∧ w.cell? ⟨(ad.add (i.toNat * 38)).block, (ad.add (i.toNat * 38)).off + 18, none⟩ = some (.int .i64 (rd_T60 xs i).f3.f2) ∧ w.cell? ⟨(ad.add (i.toNat * 38)).block, (ad.add (i.toNat * 38)).off + 19, none⟩ = some (.string (rd_T60 xs i).f3.f3.f0) ∧ w.cell? ⟨(ad.add (i.toNat * 38)).block, (ad.add (i.toNat * 38)).off + 20, none⟩ = some (.string (rd_T60 xs i).f3.f3.f1) ∧ w.cell? ⟨(ad.add (i.toNat * 38)).block, (ad.add (i.toNat * 38)).off + 21, none⟩ = some (.string (rd_T60 xs i).f3.f4.f0.f0) ∧ w.cell? ⟨(ad.add (i.toNat * 38)).block, (ad.add (i.toNat * 38)).off + 22, none⟩ = some (.string (rd_T60 xs i).f3.f4.f0.f1) ∧ w.cell? ⟨(ad.add (i.toNat * 38)).block, (ad.add (i.toNat * 38)).off + 23, none⟩ = some (.string (rd_T60 xs i).f3.f4.f0.f2) ∧ w.cell? ⟨(ad.add (i.toNat * 38)).block, (ad.add (i.toNat * 38)).off + 24, none⟩ = some (.int .i64 (rd_T60 xs i).f3.f4.f1) ∧ w.cell? ⟨(ad.add (i.toNat * 38)).block, (ad.add (i.toNat * 38)).off + 25, none⟩ = some (.string (rd_T60 xs i).f3.f4.f2) ∧ w.cell? ⟨(ad.add (i.toNat * 38)).block, (ad.add (i.toNat * 38)).off + 26, none⟩ = some (.string (rd_T60 xs i).f4.f0.f0) ∧ w.cell? ⟨(ad.add (i.toNat * 38)).block, (ad.add (i.toNat * 38)).off + 27, none⟩ = some (.string (rd_T60 xs i).f4.f0.f1) ∧ w.cell? ⟨(ad.add (i.toNat * 38)).block, (ad.add (i.toNat * 38)).off + 28, none⟩ = some (.string (rd_T60 xs i).f4.f0.f2) ∧ w.cell? ⟨(ad.add (i.toNat * 38)).block, (ad.add (i.toNat * 38)).off + 29, none⟩ = some (.int .i64 (rd_T60 xs i).f4.f1) ∧ w.cell? ⟨(ad.add (i.toNat * 38)).block, (ad.add (i.toNat * 38)).off + 30, none⟩ = some (.string (rd_T60 xs i).f4.f2) ∧ w.cell? ⟨(ad.add (i.toNat * 38)).block, (ad.add (i.toNat * 38)).off + 31, none⟩ = some (.string (rd_T60 xs i).f5.f0) ∧ w.cell? ⟨(ad.add (i.toNat * 38)).block, (ad.add (i.toNat * 38)).off + 32, none⟩ = some (.string (rd_T60 xs i).f5.f1) ∧ w.cell? ⟨(ad.add (i.toNat * 38)).block, (ad.add (i.toNat * 38)).off + 33, none⟩ = some (.string (rd_T60 xs i).f6) ∧ w.cell? ⟨(ad.add (i.toNat * 38)).block, (ad.add (i.toNat * 38)).off + 34, none⟩ = some (.string (rd_T60 xs i).f7.f0) ∧ w.cell? ⟨(ad.add (i.toNat * 38)).block, (ad.add (i.toNat * 38)).off + 35, none⟩ = some (.string (rd_T60 xs i).f7.f1) ∧ w.cell? ⟨(ad.add (i.toNat * 38)).block, (ad.add (i.toNat * 38)).off + 36, none⟩ = some (.string (rd_T60 xs i).f7.f2) ∧ w.cell? ⟨(ad.add (i.toNat * 38)).block, (ad.add (i.toNat * 38)).off + 37, none⟩ = some (.slice A37 (rd_T60 xs i).f8.length c37) ∧ (rd_T60 xs i).f8.length ≤ c37 ∧ (Kd.int .i64).C w A37 (rd_T60 xs i).f8.length (rd_T60 xs i).f8 := by
  obtain ⟨ad, c, e, _, hK, hc0⟩ := Kd.C_get h z60 i h0 h1
  have hc : ∀ j u, c[j]? = some u → w.cell? (ad.add (i.toNat * 38 + j)) = some u := hc0
  obtain ⟨A37, c37, rfl, l37, g37⟩ := k60_open hK
  exact ⟨ad, A37, c37, e, hc 0 _ rfl, by rw [← add_field _ _ 1 (by omega)]; exact hc 1 _ rfl, by rw [← add_field _ _ 2 (by omega)]; exact hc 2 _ rfl, by rw [← add_field _ _ 3 (by omega)]; exact hc 3 _ rfl, by rw [← add_field _ _ 4 (by omega)]; exact hc 4 _ rfl, by rw [← add_field _ _ 5 (by omega)]; exact hc 5 _ rfl, by rw [← add_field _ _ 6 (by omega)]; exact hc 6 _ rfl, by rw [← add_field _ _ 7 (by omega)]; exact hc 7 _ rfl, by rw [← add_field _ _ 8 (by omega)]; exact hc 8 _ rfl, by rw [← add_field _ _ 9 (by omega)]; exact hc 9 _ rfl, by rw [← add_field _ _ 10 (by omega)]; exact hc 10 _ rfl, by rw [← add_field _ _ 11 (by omega)]; exact hc 11 _ rfl, by rw [← add_field _ _ 12 (by omega)]; exact hc 12 _ rfl, by rw [← add_field _ _ 13 (by omega)]; exact hc 13 _ rfl, by rw [← add_field _ _ 14 (by omega)]; exact hc 14 _ rfl, by rw [← add_field _ _ 15 (by omega)]; exact hc 15 _ rfl, by rw [← add_field _ _ 16 (by omega)]; exact hc 16 _ rfl, by rw [← add_field _ _ 17 (by omega)]; exact hc 17 _ rfl, by rw [← add_field _ _ 18 (by omega)]; exact hc 18 _ rfl, by rw [← add_field _ _ 19 (by omega)]; exact hc 19 _ rfl, by rw [← add_field _ _ 20 (by omega)]; exact hc 20 _ rfl, by rw [← add_field _ _ 21 (by omega)]; exact hc 21 _ rfl, by rw [← add_field _ _ 22 (by omega)]; exact hc 22 _ rfl, by rw [← add_field _ _ 23 (by omega)]; exact hc 23 _ rfl, by rw [← add_field _ _ 24 (by omega)]; exact hc 24 _ rfl, by rw [← add_field _ _ 25 (by omega)]; exact hc 25 _ rfl, by rw [← add_field _ _ 26 (by omega)]; exact hc 26 _ rfl, by rw [← add_field _ _ 27 (by omega)]; exact hc 27 _ rfl, by rw [← add_field _ _ 28 (by omega)]; exact hc 28 _ rfl, by rw [← add_field _ _ 29 (by omega)]; exact hc 29 _ rfl, by rw [← add_field _ _ 30 (by omega)]; exact hc 30 _ rfl, by rw [← add_field _ _ 31 (by omega)]; exact hc 31 _ rfl, by rw [← add_field _ _ 32 (by omega)]; exact hc 32 _ rfl, by rw [← add_field _ _ 33 (by omega)]; exact hc 33 _ rfl, by rw [← add_field _ _ 34 (by omega)]; exact hc 34 _ rfl, by rw [← add_field _ _ 35 (by omega)]; exact hc 35 _ rfl, by rw [← add_field _ _ 36 (by omega)]; exact hc 36 _ rfl, by rw [← add_field _ _ 37 (by omega)]; exact hc 37 _ rfl, l37, g37⟩
end Go.Proofs.Ytfplcohjnlbfjaa.Hand
end

section
namespace Go.Proofs.Ytfplcohjnlbfjaa.Hand
open Go.RowKit Go.Proofs.YtfplcohjnlbfjaaW.PrintWords Go.Proofs.YtfplcohjnlbfjaaW.PrintLast Go.Proofs.YtfplcohjnlbfjaaW.PrintMore
set_option linter.unusedVariables false
set_option linter.unusedSimpArgs false
def idxI {α : Type} (p : α → Bool) (xs : List α) : Int := if xs.findIdx p < xs.length then (xs.findIdx p : Int) else -1
theorem cell_lt {w : World} {a : Addr} {v : Value} (h : w.cell? a = some v) : a.block < w.heap.size := by
  rcases Nat.lt_or_ge a.block w.heap.size with hb | hb
  · exact hb
  · have e : w.heap[a.block]? = none := Array.getElem?_eq_none hb
    simp [World.cell?, e] at h
theorem idxI_at {α : Type} {p : α → Bool} {xs : List α} {i : Nat} (hi : i < xs.length) (h : p xs[i] = true) (hb : ∀ (j : Nat) (hj : j < xs.length), j < i → p xs[j] = false) : idxI p xs = (i : Int) := by
  have e : xs.findIdx p = i := (List.findIdx_eq hi).2 ⟨h, fun j hj => hb j (by omega) hj⟩
  unfold idxI
  rw [e, if_pos hi]
theorem idxI_no {α : Type} {p : α → Bool} {xs : List α} (h : ∀ x ∈ xs, p x = false) : idxI p xs = -1 := by
  have e : xs.findIdx p = xs.length := List.findIdx_eq_length.2 h
  unfold idxI
  rw [e, if_neg (by omega)]
theorem class_at {w : World} {A : Option Addr} {xs : List S33} (h : Kd.C k33 w A xs.length xs) {i : Nat} (hi : i < xs.length) : ∃ ad A4 c4 A5 c5 A6 c6, A = some ad ∧ w.cell? (ad.add (i * 7)) = some (.string xs[i].f0) ∧ w.cell? ⟨(ad.add (i * 7)).block, (ad.add (i * 7)).off + 1, none⟩ = some (.string xs[i].f1) ∧ w.cell? ⟨(ad.add (i * 7)).block, (ad.add (i * 7)).off + 2, none⟩ = some (.bool xs[i].f2) ∧ w.cell? ⟨(ad.add (i * 7)).block, (ad.add (i * 7)).off + 3, none⟩ = some (.bool xs[i].f3) ∧ w.cell? ⟨(ad.add (i * 7)).block, (ad.add (i * 7)).off + 4, none⟩ = some (.slice A4 xs[i].f4.length c4) ∧ w.cell? ⟨(ad.add (i * 7)).block, (ad.add (i * 7)).off + 5, none⟩ = some (.slice A5 xs[i].f5.length c5) ∧ w.cell? ⟨(ad.add (i * 7)).block, (ad.add (i * 7)).off + 6, none⟩ = some (.slice A6 xs[i].f6.length c6) ∧ k33.K w xs[i] [.string xs[i].f0, .string xs[i].f1, .bool xs[i].f2, .bool xs[i].f3, .slice A4 xs[i].f4.length c4, .slice A5 xs[i].f5.length c5, .slice A6 xs[i].f6.length c6] := by
  obtain ⟨ad, A4, c4, A5, c5, A6, c6, e, h0, h1, h2, h3, h4, h5, h6, l4, g4, l5, g5, l6, g6⟩ := at_T33 h (i : Int) (by omega) (by omega)
  have hx : rd_T33 xs (i : Int) = xs[i] := by
    unfold rd_T33
    rw [Int.toNat_natCast, List.getD_eq_getElem?_getD, List.getElem?_eq_getElem hi]
    rfl
  simp only [hx, Int.toNat_natCast] at h0 h1 h2 h3 h4 h5 h6 l4 g4 l5 g5 l6 g6
  exact ⟨ad, A4, c4, A5, c5, A6, c6, e, h0, h1, h2, h3, h4, h5, h6, k33_mk w xs[i] l4 g4 l5 g5 l6 g6⟩
theorem method_at {w : World} {A : Option Addr} {xs : List S37} (h : Kd.C k37 w A xs.length xs) {i : Nat} (hi : i < xs.length) : ∃ ad A5 c5, A = some ad ∧ w.cell? (ad.add (i * 6)) = some (.string xs[i].f0) ∧ w.cell? ⟨(ad.add (i * 6)).block, (ad.add (i * 6)).off + 1, none⟩ = some (.string xs[i].f1) ∧ w.cell? ⟨(ad.add (i * 6)).block, (ad.add (i * 6)).off + 2, none⟩ = some (.bool xs[i].f2) ∧ w.cell? ⟨(ad.add (i * 6)).block, (ad.add (i * 6)).off + 3, none⟩ = some (.bool xs[i].f3) ∧ w.cell? ⟨(ad.add (i * 6)).block, (ad.add (i * 6)).off + 4, none⟩ = some (.int .i64 xs[i].f4) ∧ w.cell? ⟨(ad.add (i * 6)).block, (ad.add (i * 6)).off + 5, none⟩ = some (.slice A5 xs[i].f5.length c5) ∧ k37.K w xs[i] [.string xs[i].f0, .string xs[i].f1, .bool xs[i].f2, .bool xs[i].f3, .int .i64 xs[i].f4, .slice A5 xs[i].f5.length c5] := by
  obtain ⟨ad, A5, c5, e, h0, h1, h2, h3, h4, h5, l5, g5⟩ := at_T37 h (i : Int) (by omega) (by omega)
  have hx : rd_T37 xs (i : Int) = xs[i] := by
    unfold rd_T37
    rw [Int.toNat_natCast, List.getD_eq_getElem?_getD, List.getElem?_eq_getElem hi]
    rfl
  simp only [hx, Int.toNat_natCast] at h0 h1 h2 h3 h4 h5 l5 g5
  exact ⟨ad, A5, c5, e, h0, h1, h2, h3, h4, h5, k37_mk w xs[i] l5 g5⟩
set_option maxHeartbeats 16000000 in
set_option maxRecDepth 20000 in
theorem index_class (p : S33 → Bool) (g : Nat) (A : Option Addr) (c : Nat) (xs : List (S33)) (w : World) (hC : Kd.C k33 w A xs.length xs) (hc : xs.length ≤ c)
    (hp : ∀ (x : S33) (cs : List Value) (W : World), x ∈ xs → Below w.heap.size w W → k33.K W x cs → Calls Try.prog 84 (#[.agg cs.toArray, .pointer (some ⟨g, 0, none⟩)]) W fun e w' => e = .returned (.bool (p x)) ∧ Below W.heap.size W w') :
    Calls Try.prog 83 #[.slice A xs.length c, .func (.func 84) #[] #[.pointer (some ⟨g, 0, none⟩)]] w fun e w' => e = .returned (.int .i64 (idxI p xs)) ∧ Below w.heap.size w w' := by
  have HC := Aside0.mk hC
  have HP := Aside0.mk hp
  have hmx := hC.2.1
  clear hC hp
  go_enter Try.func83, Try.ntmps83
  go_wp2
  go_loopg [8] xs.length (fun kq v8 wr => ∃ i : Nat, v8 = .int .i64 (i : Int) ∧ i + kq = xs.length ∧ Aside0 (∀ j (hj : j < xs.length), j < i → p xs[j] = false) ∧ Aside0 (Below w.heap.size w wr))
  case atStart => exact ⟨0, rfl, by omega, ⟨fun j _ h => absurd h (Nat.not_lt_zero j)⟩, ⟨Below.refl _ _⟩⟩
  case round =>
    obtain ⟨i, rfl, hi, HA, HB⟩ := hrel
    by_cases hlt : i < xs.length
    · obtain ⟨ad, A4, c4, A5, c5, A6, c6, rfl, h0, h1, h2, h3, h4, h5, h6, hK⟩ := class_at (Kd.C_below HC.out HB.out) hlt
      have HPX := Aside0.mk (HP.out xs[i] _ wr (List.getElem_mem hlt) HB.out hK)
      clear hK
      have hd : decide ((i : Int) < (xs.length : Int)) = true := decide_eq_true (by omega)
      cases hbd : p xs[i] with
      | true =>
        have HBD := Aside0.mk hbd
        rw [hbd] at HPX
        clear hbd
        go_wp2_with (go_at_call 84; refine HPX.out.mono ?_; rintro e w1 ⟨rfl, hb⟩; have HB1 := Aside0.mk (HB.out.trans (hb.mono HB.out.size)))
        refine bodyPost_ret (results_tmp rfl _ _ _) rfl ⟨?_, HB1.out⟩
        rw [idxI_at hlt HBD.out HA.out]
        rfl
      | false =>
        have HBF := Aside0.mk hbd
        rw [hbd] at HPX
        clear hbd
        go_wp2_with (go_at_call 84; refine HPX.out.mono ?_; rintro e w1 ⟨rfl, hb⟩; have HB1 := Aside0.mk (HB.out.trans (hb.mono HB.out.size)))
        go_roundg (gk - 1)
        case measure => omega
        case rel =>
          refine ⟨i + 1, by simp, by omega, ⟨fun j hj hji => ?_⟩, HB1⟩
          by_cases e : j = i
          · subst e
            exact HBF.out
          · exact HA.out j hj (by omega)
    · have hd : decide ((i : Int) < (xs.length : Int)) = false := decide_eq_false (by omega)
      have HF : Aside0 (∀ x ∈ xs, p x = false) := ⟨fun x hx => by
        obtain ⟨j, hj, rfl⟩ := List.mem_iff_getElem.1 hx
        exact HA.out j hj (by omega)⟩
      go_wp2
      go_ret
      rw [idxI_no HF.out]
      exact ⟨rfl, HB.out⟩
set_option maxHeartbeats 16000000 in
set_option maxRecDepth 20000 in
theorem index_method (p : S37 → Bool) (g g' : Nat) (A : Option Addr) (c : Nat) (xs : List (S37)) (w : World) (hC : Kd.C k37 w A xs.length xs) (hc : xs.length ≤ c)
    (hp : ∀ (x : S37) (cs : List Value) (W : World), x ∈ xs → Below w.heap.size w W → k37.K W x cs → Calls Try.prog 60 (#[.agg cs.toArray, .pointer (some ⟨g, 0, none⟩), .pointer (some ⟨g', 0, none⟩)]) W fun e w' => e = .returned (.bool (p x)) ∧ Below W.heap.size W w') :
    Calls Try.prog 59 #[.slice A xs.length c, .func (.func 60) #[] #[.pointer (some ⟨g, 0, none⟩), .pointer (some ⟨g', 0, none⟩)]] w fun e w' => e = .returned (.int .i64 (idxI p xs)) ∧ Below w.heap.size w w' := by
  have HC := Aside0.mk hC
  have HP := Aside0.mk hp
  have hmx := hC.2.1
  clear hC hp
  go_enter Try.func59, Try.ntmps59
  go_wp2
  go_loopg [8] xs.length (fun kq v8 wr => ∃ i : Nat, v8 = .int .i64 (i : Int) ∧ i + kq = xs.length ∧ Aside0 (∀ j (hj : j < xs.length), j < i → p xs[j] = false) ∧ Aside0 (Below w.heap.size w wr))
  case atStart => exact ⟨0, rfl, by omega, ⟨fun j _ h => absurd h (Nat.not_lt_zero j)⟩, ⟨Below.refl _ _⟩⟩
  case round =>
    obtain ⟨i, rfl, hi, HA, HB⟩ := hrel
    by_cases hlt : i < xs.length
    · obtain ⟨ad, A5, c5, rfl, h0, h1, h2, h3, h4, h5, hK⟩ := method_at (Kd.C_below HC.out HB.out) hlt
      have HPX := Aside0.mk (HP.out xs[i] _ wr (List.getElem_mem hlt) HB.out hK)
      clear hK
      have hd : decide ((i : Int) < (xs.length : Int)) = true := decide_eq_true (by omega)
      cases hbd : p xs[i] with
      | true =>
        have HBD := Aside0.mk hbd
        rw [hbd] at HPX
        clear hbd
        go_wp2_with (go_at_call 60; refine HPX.out.mono ?_; rintro e w1 ⟨rfl, hb⟩; have HB1 := Aside0.mk (HB.out.trans (hb.mono HB.out.size)))
        refine bodyPost_ret (results_tmp rfl _ _ _) rfl ⟨?_, HB1.out⟩
        rw [idxI_at hlt HBD.out HA.out]
        rfl
      | false =>
        have HBF := Aside0.mk hbd
        rw [hbd] at HPX
        clear hbd
        go_wp2_with (go_at_call 60; refine HPX.out.mono ?_; rintro e w1 ⟨rfl, hb⟩; have HB1 := Aside0.mk (HB.out.trans (hb.mono HB.out.size)))
        go_roundg (gk - 1)
        case measure => omega
        case rel =>
          refine ⟨i + 1, by simp, by omega, ⟨fun j hj hji => ?_⟩, HB1⟩
          by_cases e : j = i
          · subst e
            exact HBF.out
          · exact HA.out j hj (by omega)
    · have hd : decide ((i : Int) < (xs.length : Int)) = false := decide_eq_false (by omega)
      have HF : Aside0 (∀ x ∈ xs, p x = false) := ⟨fun x hx => by
        obtain ⟨j, hj, rfl⟩ := List.mem_iff_getElem.1 hx
        exact HA.out j hj (by omega)⟩
      go_wp2
      go_ret
      rw [idxI_no HF.out]
      exact ⟨rfl, HB.out⟩
def isC (name : ByteArray) (x : S33) : Bool := x.f0.toList == name.toList
theorem class_lit (x : S33) (cs : List Value) (g : Nat) (name : ByteArray) (w : World) (hK : k33.K w x cs) (hs : w.cell? ⟨g, 0, none⟩ = some (.string name)) :
    Calls Try.prog 84 #[.agg cs.toArray, .pointer (some ⟨g, 0, none⟩)] w fun e w' => e = .returned (.bool (isC name x)) ∧ Below w.heap.size w w' := by
  obtain ⟨A4, c4, A5, c5, A6, c6, rfl, _⟩ := k33_open hK
  have hg := cell_lt hs
  clear hK
  go_enter Try.func84, Try.ntmps84
  go_wp2
  go_ret
  exact ⟨rfl, by first | exact below_alloc (Below.refl _ _) _ | exact Below.refl _ _⟩
def isM (name desc : ByteArray) (x : S37) : Bool := (x.f0.toList == name.toList) && (x.f1.toList == desc.toList)
theorem method_lit (x : S37) (cs : List Value) (g g' : Nat) (name desc : ByteArray) (w : World) (hK : k37.K w x cs) (hs : w.cell? ⟨g, 0, none⟩ = some (.string name)) (hs' : w.cell? ⟨g', 0, none⟩ = some (.string desc)) :
    Calls Try.prog 60 #[.agg cs.toArray, .pointer (some ⟨g, 0, none⟩), .pointer (some ⟨g', 0, none⟩)] w fun e w' => e = .returned (.bool (isM name desc x)) ∧ Below w.heap.size w w' := by
  obtain ⟨A5, c5, rfl, _⟩ := k37_open hK
  have hg := cell_lt hs
  have hg' := cell_lt hs'
  clear hK
  unfold isM
  cases hb : (x.f0.toList == name.toList) with
  | true =>
    go_enter Try.func60, Try.ntmps60
    go_wp2
    go_ret
    exact ⟨by simp, by first | exact below_alloc (Below.refl _ _) _ | exact Below.refl _ _⟩
  | false =>
    go_enter Try.func60, Try.ntmps60
    go_wp2
    go_ret
    exact ⟨by simp, by first | exact below_alloc (Below.refl _ _) _ | exact Below.refl _ _⟩
end Go.Proofs.Ytfplcohjnlbfjaa.Hand
end

section
namespace Go.Proofs.Ytfplcohjnlbfjaa.Hand
open Go.RowKit Go.Proofs.YtfplcohjnlbfjaaW.PrintWords Go.Proofs.YtfplcohjnlbfjaaW.PrintLast Go.Proofs.YtfplcohjnlbfjaaW.PrintMore
set_option linter.unusedVariables false
set_option linter.unusedSimpArgs false
def norm_Class.f (l0_0 : List S33) (l0_1 : List ByteArray) (a0_2 a0_3 a0_4 a1 : ByteArray) : Option Int := some (idxI (isC a1) l0_0)
set_option maxHeartbeats 8000000 in
set_option maxRecDepth 20000 in
theorem norm_Class.calls (A0_0 : Option Addr) (c0_0 : Nat) (l0_0 : List S33) (A0_1 : Option Addr) (c0_1 : Nat) (l0_1 : List ByteArray) (a0_2 : ByteArray) (a0_3 : ByteArray) (a0_4 : ByteArray) (a1 : ByteArray) (r : Int) (w : World) (hr0_0 : Kd.C k33 w A0_0 l0_0.length l0_0) (hc0_0 : l0_0.length ≤ c0_0) (hr0_1 : Kd.C Kd.string w A0_1 l0_1.length l0_1) (hc0_1 : l0_1.length ≤ c0_1) (h : norm_Class.f l0_0 l0_1 a0_2 a0_3 a0_4 a1 = some r) :
    Calls Try.prog 58 #[.agg #[.slice A0_0 l0_0.length c0_0, .slice A0_1 l0_1.length c0_1, .string a0_2, .string a0_3, .string a0_4], .string a1] w fun e w' => e = .returned (.int .i64 r) ∧ Below w.heap.size w w' := by
  obtain rfl : idxI (isC a1) l0_0 = r := Option.some.inj h
  have HC := Aside0.mk hr0_0
  clear h hr0_0 hr0_1
  go_enter Try.func58, Try.ntmps58
  go_wp2_with fail
  refine (index_class (isC a1) (w.heap.size + 1) A0_0 c0_0 l0_0 _ (Kd.C_below HC.out (below_alloc (below_alloc (Below.refl _ _) _) _)) hc0_0 (fun x cs W _ hb hK => class_lit x cs _ a1 W hK ((hb.cell (by simp)).trans (by simp)))).mono ?_
  rintro e w1 ⟨rfl, hb⟩
  go_wp2_with fail
  exact bodyPost_ret (results_tmp rfl _ _ _) rfl ⟨rfl, below_step (below_alloc (below_alloc (Below.refl _ _) _) _) hb⟩
def norm_Method.f (a0_0 a0_1 : ByteArray) (a0_2 a0_3 : Bool) (l0_4 : List ByteArray) (l0_5 : List S103) (l0_6 : List S37) (a1 a2 : ByteArray) : Option Int := some (idxI (isM a1 a2) l0_6)
set_option maxHeartbeats 8000000 in
set_option maxRecDepth 20000 in
theorem norm_Method.calls (a0_0 : ByteArray) (a0_1 : ByteArray) (a0_2 : Bool) (a0_3 : Bool) (A0_4 : Option Addr) (c0_4 : Nat) (l0_4 : List ByteArray) (A0_5 : Option Addr) (c0_5 : Nat) (l0_5 : List S103) (A0_6 : Option Addr) (c0_6 : Nat) (l0_6 : List S37) (a1 : ByteArray) (a2 : ByteArray) (r : Int) (w : World) (hr0_4 : Kd.C Kd.string w A0_4 l0_4.length l0_4) (hc0_4 : l0_4.length ≤ c0_4) (hr0_5 : Kd.C k103 w A0_5 l0_5.length l0_5) (hc0_5 : l0_5.length ≤ c0_5) (hr0_6 : Kd.C k37 w A0_6 l0_6.length l0_6) (hc0_6 : l0_6.length ≤ c0_6) (h : norm_Method.f a0_0 a0_1 a0_2 a0_3 l0_4 l0_5 l0_6 a1 a2 = some r) :
    Calls Try.prog 36 #[.agg #[.string a0_0, .string a0_1, .bool a0_2, .bool a0_3, .slice A0_4 l0_4.length c0_4, .slice A0_5 l0_5.length c0_5, .slice A0_6 l0_6.length c0_6], .string a1, .string a2] w fun e w' => e = .returned (.int .i64 r) ∧ Below w.heap.size w w' := by
  obtain rfl : idxI (isM a1 a2) l0_6 = r := Option.some.inj h
  have HC := Aside0.mk hr0_6
  clear h hr0_4 hr0_5 hr0_6
  go_enter Try.func36, Try.ntmps36
  go_wp2_with fail
  have n1 : ((w.alloc (Obj.cells #[.string a0_0, .string a0_1, .bool a0_2, .bool a0_3, .slice A0_4 l0_4.length c0_4, .slice A0_5 l0_5.length c0_5, .slice A0_6 l0_6.length c0_6] 33)).alloc (Obj.cells #[.string a1] 9)).heap[w.heap.size + 1]? = some (Obj.cells #[.string a1] 9 (0, 0)) := by
    have := World.alloc_heap_new (w.alloc (Obj.cells #[.string a0_0, .string a0_1, .bool a0_2, .bool a0_3, .slice A0_4 l0_4.length c0_4, .slice A0_5 l0_5.length c0_5, .slice A0_6 l0_6.length c0_6] 33)) (Obj.cells #[.string a1] 9)
    rwa [World.size_alloc] at this
  have n2 := blk_alloc n1 (Obj.cells #[.string a2] 9)
  have n3 : (((w.alloc (Obj.cells #[.string a0_0, .string a0_1, .bool a0_2, .bool a0_3, .slice A0_4 l0_4.length c0_4, .slice A0_5 l0_5.length c0_5, .slice A0_6 l0_6.length c0_6] 33)).alloc (Obj.cells #[.string a1] 9)).alloc (Obj.cells #[.string a2] 9)).heap[w.heap.size + 1 + 1]? = some (Obj.cells #[.string a2] 9 (0, 0)) := by
    have := World.alloc_heap_new ((w.alloc (Obj.cells #[.string a0_0, .string a0_1, .bool a0_2, .bool a0_3, .slice A0_4 l0_4.length c0_4, .slice A0_5 l0_5.length c0_5, .slice A0_6 l0_6.length c0_6] 33)).alloc (Obj.cells #[.string a1] 9)) (Obj.cells #[.string a2] 9)
    rwa [World.size_alloc, World.size_alloc] at this
  refine (index_method (isM a1 a2) (w.heap.size + 1) (w.heap.size + 1 + 1) A0_6 c0_6 l0_6 _ (Kd.C_below HC.out (below_alloc (below_alloc (below_alloc (Below.refl _ _) _) _) _)) hc0_6 (fun x cs W _ hb hK => method_lit x cs _ _ a1 a2 W hK ((hb.cell (by simp)).trans (blk_cell n2 0)) ((hb.cell (by simp)).trans (blk_cell n3 0)))).mono ?_
  rintro e w1 ⟨rfl, hb⟩
  clear n1 n2 n3
  go_wp2_with fail
  exact bodyPost_ret (results_tmp rfl _ _ _) rfl ⟨rfl, below_step (below_alloc (below_alloc (below_alloc (Below.refl _ _) _) _) _) hb⟩
end Go.Proofs.Ytfplcohjnlbfjaa.Hand
end

section
namespace Go.Proofs.Ytfplcohjnlbfjaa.Hand
open Go.RowKit Go.Proofs.YtfplcohjnlbfjaaW.PrintWords Go.Proofs.YtfplcohjnlbfjaaW.PrintLast Go.Proofs.YtfplcohjnlbfjaaW.PrintMore
set_option linter.unusedVariables false
set_option linter.unusedSimpArgs false
theorem idxI_cases {α : Type} (p : α → Bool) (xs : List α) : (idxI p xs = -1 ∧ xs.find? p = none) ∨ ∃ (i : Nat) (hi : i < xs.length), idxI p xs = (i : Int) ∧ xs.find? p = some xs[i] := by
  unfold idxI
  by_cases h : xs.findIdx p < xs.length
  · refine .inr ⟨xs.findIdx p, h, by rw [if_pos h], ?_⟩
    rw [List.find?_eq_some_iff_getElem]
    exact ⟨List.findIdx_getElem, xs.findIdx p, h, rfl, fun j hj => by simpa using List.not_of_lt_findIdx hj⟩
  · refine .inl ⟨by rw [if_neg h], ?_⟩
    rw [List.find?_eq_none]
    intro x hx
    have := List.findIdx_eq_length.1 (Nat.le_antisymm List.findIdx_le_length (Nat.le_of_not_lt h)) x hx
    rw [this]
    decide
theorem set7_own {w : World} {R : Nat} {t : TypeId} {u0 u1 u2 u3 u4 u5 u6 : Value} (h : w.heap[R]? = some (Obj.cells #[u0, u1, u2, u3, u4, u5, u6] t (0, 0))) (v0 v1 v2 v3 v4 v5 v6 : Value) : (((((((w.setCell ⟨R, 0, none⟩ v0).setCell ⟨R, 1, none⟩ v1).setCell ⟨R, 2, none⟩ v2).setCell ⟨R, 3, none⟩ v3).setCell ⟨R, 4, none⟩ v4).setCell ⟨R, 5, none⟩ v5).setCell ⟨R, 6, none⟩ v6).heap[R]? = some (Obj.cells #[v0, v1, v2, v3, v4, v5, v6] t (0, 0)) :=
  blk_put (cs' := #[v0, v1, v2, v3, v4, v5, v6]) (blk_put (cs' := #[v0, v1, v2, v3, v4, v5, u6]) (blk_put (cs' := #[v0, v1, v2, v3, v4, u5, u6]) (blk_put (cs' := #[v0, v1, v2, v3, u4, u5, u6]) (blk_put (cs' := #[v0, v1, v2, u3, u4, u5, u6]) (blk_put (cs' := #[v0, v1, u2, u3, u4, u5, u6]) (blk_put (cs' := #[v0, u1, u2, u3, u4, u5, u6]) h 0 v0 rfl) 1 v1 rfl) 2 v2 rfl) 3 v3 rfl) 4 v4 rfl) 5 v5 rfl) 6 v6 rfl
theorem set7_below {w0 w : World} {R : Nat} (h : Below w0.heap.size w0 w) (hR : w0.heap.size ≤ R) (v0 v1 v2 v3 v4 v5 v6 : Value) : Below w0.heap.size w0 (((((((w.setCell ⟨R, 0, none⟩ v0).setCell ⟨R, 1, none⟩ v1).setCell ⟨R, 2, none⟩ v2).setCell ⟨R, 3, none⟩ v3).setCell ⟨R, 4, none⟩ v4).setCell ⟨R, 5, none⟩ v5).setCell ⟨R, 6, none⟩ v6) := below_set (below_set (below_set (below_set (below_set (below_set (below_set h hR) hR) hR) hR) hR) hR) hR
theorem set6_own {w : World} {R : Nat} {t : TypeId} {u0 u1 u2 u3 u4 u5 : Value} (h : w.heap[R]? = some (Obj.cells #[u0, u1, u2, u3, u4, u5] t (0, 0))) (v0 v1 v2 v3 v4 v5 : Value) : ((((((w.setCell ⟨R, 0, none⟩ v0).setCell ⟨R, 1, none⟩ v1).setCell ⟨R, 2, none⟩ v2).setCell ⟨R, 3, none⟩ v3).setCell ⟨R, 4, none⟩ v4).setCell ⟨R, 5, none⟩ v5).heap[R]? = some (Obj.cells #[v0, v1, v2, v3, v4, v5] t (0, 0)) :=
  blk_put (cs' := #[v0, v1, v2, v3, v4, v5]) (blk_put (cs' := #[v0, v1, v2, v3, v4, u5]) (blk_put (cs' := #[v0, v1, v2, v3, u4, u5]) (blk_put (cs' := #[v0, v1, v2, u3, u4, u5]) (blk_put (cs' := #[v0, v1, u2, u3, u4, u5]) (blk_put (cs' := #[v0, u1, u2, u3, u4, u5]) h 0 v0 rfl) 1 v1 rfl) 2 v2 rfl) 3 v3 rfl) 4 v4 rfl) 5 v5 rfl
theorem set6_below {w0 w : World} {R : Nat} (h : Below w0.heap.size w0 w) (hR : w0.heap.size ≤ R) (v0 v1 v2 v3 v4 v5 : Value) : Below w0.heap.size w0 ((((((w.setCell ⟨R, 0, none⟩ v0).setCell ⟨R, 1, none⟩ v1).setCell ⟨R, 2, none⟩ v2).setCell ⟨R, 3, none⟩ v3).setCell ⟨R, 4, none⟩ v4).setCell ⟨R, 5, none⟩ v5) := below_set (below_set (below_set (below_set (below_set (below_set h hR) hR) hR) hR) hR) hR
structure ClAt (w : World) (a : Addr) (x : S33) (A4 : Option Addr) (c4 : Nat) (A5 : Option Addr) (c5 : Nat) (A6 : Option Addr) (c6 : Nat) : Prop where
  h0 : w.cell? a = some (.string x.f0)
  h1 : w.cell? ⟨a.block, a.off + 1, none⟩ = some (.string x.f1)
  h2 : w.cell? ⟨a.block, a.off + 2, none⟩ = some (.bool x.f2)
  h3 : w.cell? ⟨a.block, a.off + 3, none⟩ = some (.bool x.f3)
  h4 : w.cell? ⟨a.block, a.off + 4, none⟩ = some (.slice A4 x.f4.length c4)
  h5 : w.cell? ⟨a.block, a.off + 5, none⟩ = some (.slice A5 x.f5.length c5)
  h6 : w.cell? ⟨a.block, a.off + 6, none⟩ = some (.slice A6 x.f6.length c6)
theorem ClAt.below {w w' : World} {a : Addr} {x : S33} {A4 : Option Addr} {c4 : Nat} {A5 : Option Addr} {c5 : Nat} {A6 : Option Addr} {c6 : Nat} (h : ClAt w a x A4 c4 A5 c5 A6 c6) (hb : Below w.heap.size w w') : ClAt w' a x A4 c4 A5 c5 A6 c6 :=
  ⟨(hb.cell (cell_lt h.h0)).trans h.h0, (hb.cell (cell_lt h.h1)).trans h.h1, (hb.cell (cell_lt h.h2)).trans h.h2, (hb.cell (cell_lt h.h3)).trans h.h3, (hb.cell (cell_lt h.h4)).trans h.h4, (hb.cell (cell_lt h.h5)).trans h.h5, (hb.cell (cell_lt h.h6)).trans h.h6⟩
theorem ClAt_of {w : World} {ok : Nat → Prop} {A : Option Addr} {xs : List S33} (h : Kd.F k33 w ok A xs.length xs) {i : Nat} (hi : i < xs.length) : ∃ ad A4 c4 A5 c5 A6 c6, A = some ad ∧ ClAt w (ad.add (i * 7)) xs[i] A4 c4 A5 c5 A6 c6 ∧ Kd.FK k33 w ok xs[i] [.string xs[i].f0, .string xs[i].f1, .bool xs[i].f2, .bool xs[i].f3, .slice A4 xs[i].f4.length c4, .slice A5 xs[i].f5.length c5, .slice A6 xs[i].f6.length c6] := by
  obtain ⟨ad, c, e, hcl, hK, hc0, _⟩ := Kd.F_get h z33 (i : Int) (by omega) (by omega)
  have hx : xs.getD (i : Int).toNat z33 = xs[i] := by
    rw [Int.toNat_natCast, List.getD_eq_getElem?_getD, List.getElem?_eq_getElem hi]
    rfl
  rw [hx] at hK
  have hc : ∀ j u, c[j]? = some u → w.cell? (ad.add (i * 7 + j)) = some u := hc0
  obtain ⟨A4, c4, A5, c5, A6, c6, rfl, _⟩ := k33_open (Kd.FK_now hK)
  exact ⟨ad, A4, c4, A5, c5, A6, c6, e, ⟨hc 0 _ rfl, (by rw [← add_field _ _ 1 (by omega)]; exact hc 1 _ rfl), (by rw [← add_field _ _ 2 (by omega)]; exact hc 2 _ rfl), (by rw [← add_field _ _ 3 (by omega)]; exact hc 3 _ rfl), (by rw [← add_field _ _ 4 (by omega)]; exact hc 4 _ rfl), (by rw [← add_field _ _ 5 (by omega)]; exact hc 5 _ rfl), (by rw [← add_field _ _ 6 (by omega)]; exact hc 6 _ rfl)⟩, hK⟩
structure MeAt (w : World) (a : Addr) (x : S37) (A5 : Option Addr) (c5 : Nat) : Prop where
  h0 : w.cell? a = some (.string x.f0)
  h1 : w.cell? ⟨a.block, a.off + 1, none⟩ = some (.string x.f1)
  h2 : w.cell? ⟨a.block, a.off + 2, none⟩ = some (.bool x.f2)
  h3 : w.cell? ⟨a.block, a.off + 3, none⟩ = some (.bool x.f3)
  h4 : w.cell? ⟨a.block, a.off + 4, none⟩ = some (.int .i64 x.f4)
  h5 : w.cell? ⟨a.block, a.off + 5, none⟩ = some (.slice A5 x.f5.length c5)
theorem MeAt.below {w w' : World} {a : Addr} {x : S37} {A5 : Option Addr} {c5 : Nat} (h : MeAt w a x A5 c5) (hb : Below w.heap.size w w') : MeAt w' a x A5 c5 :=
  ⟨(hb.cell (cell_lt h.h0)).trans h.h0, (hb.cell (cell_lt h.h1)).trans h.h1, (hb.cell (cell_lt h.h2)).trans h.h2, (hb.cell (cell_lt h.h3)).trans h.h3, (hb.cell (cell_lt h.h4)).trans h.h4, (hb.cell (cell_lt h.h5)).trans h.h5⟩
theorem MeAt_of {w : World} {ok : Nat → Prop} {A : Option Addr} {xs : List S37} (h : Kd.F k37 w ok A xs.length xs) {i : Nat} (hi : i < xs.length) : ∃ ad A5 c5, A = some ad ∧ MeAt w (ad.add (i * 6)) xs[i] A5 c5 ∧ Kd.FK k37 w ok xs[i] [.string xs[i].f0, .string xs[i].f1, .bool xs[i].f2, .bool xs[i].f3, .int .i64 xs[i].f4, .slice A5 xs[i].f5.length c5] := by
  obtain ⟨ad, c, e, hcl, hK, hc0, _⟩ := Kd.F_get h z37 (i : Int) (by omega) (by omega)
  have hx : xs.getD (i : Int).toNat z37 = xs[i] := by
    rw [Int.toNat_natCast, List.getD_eq_getElem?_getD, List.getElem?_eq_getElem hi]
    rfl
  rw [hx] at hK
  have hc : ∀ j u, c[j]? = some u → w.cell? (ad.add (i * 6 + j)) = some u := hc0
  obtain ⟨A5, c5, rfl, _⟩ := k37_open (Kd.FK_now hK)
  exact ⟨ad, A5, c5, e, ⟨hc 0 _ rfl, (by rw [← add_field _ _ 1 (by omega)]; exact hc 1 _ rfl), (by rw [← add_field _ _ 2 (by omega)]; exact hc 2 _ rfl), (by rw [← add_field _ _ 3 (by omega)]; exact hc 3 _ rfl), (by rw [← add_field _ _ 4 (by omega)]; exact hc 4 _ rfl), (by rw [← add_field _ _ 5 (by omega)]; exact hc 5 _ rfl)⟩, hK⟩
theorem class_methods {w : World} {ok : Nat → Prop} {x : S33} {A4 : Option Addr} {c4 : Nat} {A5 : Option Addr} {c5 : Nat} {A6 : Option Addr} {c6 : Nat} (h : Kd.FK k33 w ok x [.string x.f0, .string x.f1, .bool x.f2, .bool x.f3, .slice A4 x.f4.length c4, .slice A5 x.f5.length c5, .slice A6 x.f6.length c6]) : Kd.F k37 w ok A6 x.f6.length x.f6 := fun W' hW => by
  obtain ⟨A4', c4', A5', c5', A6', c6', he, _, _, _, _, _, g6⟩ := k33_open (h W' hW)
  simp only [List.cons.injEq, Value.slice.injEq] at he
  obtain ⟨_, _, _, _, _, _, ⟨rfl, _, _⟩, _⟩ := he
  exact g6
theorem class_opens {w : World} {ok : Nat → Prop} {x : S33} {A4 : Option Addr} {c4 : Nat} {A5 : Option Addr} {c5 : Nat} {A6 : Option Addr} {c6 : Nat} (h : Kd.FK k33 w ok x [.string x.f0, .string x.f1, .bool x.f2, .bool x.f3, .slice A4 x.f4.length c4, .slice A5 x.f5.length c5, .slice A6 x.f6.length c6]) : x.f4.length ≤ c4 ∧ Kd.C Kd.string w A4 x.f4.length x.f4 ∧ x.f5.length ≤ c5 ∧ Kd.C k103 w A5 x.f5.length x.f5 ∧ x.f6.length ≤ c6 ∧ Kd.C k37 w A6 x.f6.length x.f6 := by
  obtain ⟨A4', c4', A5', c5', A6', c6', he, l4, g4, l5, g5, l6, g6⟩ := k33_open (Kd.FK_now h)
  simp only [List.cons.injEq, Value.slice.injEq] at he
  obtain ⟨_, _, _, _, ⟨rfl, _, rfl⟩, ⟨rfl, _, rfl⟩, ⟨rfl, _, rfl⟩, _⟩ := he
  exact ⟨l4, g4, l5, g5, l6, g6⟩
theorem method_code {w : World} {ok : Nat → Prop} {x : S37} {A5 : Option Addr} {c5 : Nat} (h : Kd.FK k37 w ok x [.string x.f0, .string x.f1, .bool x.f2, .bool x.f3, .int .i64 x.f4, .slice A5 x.f5.length c5]) : x.f5.length ≤ c5 ∧ Kd.F k74 w ok A5 x.f5.length x.f5 := by
  refine ⟨?_, fun W' hW => ?_⟩
  · obtain ⟨A5', c5', he, l5, _⟩ := k37_open (Kd.FK_now h)
    simp only [List.cons.injEq, Value.slice.injEq] at he
    obtain ⟨_, _, _, _, _, ⟨_, _, rfl⟩, _⟩ := he
    exact l5
  · obtain ⟨A5', c5', he, _, g5⟩ := k37_open (h W' hW)
    simp only [List.cons.injEq, Value.slice.injEq] at he
    obtain ⟨_, _, _, _, _, ⟨rfl, _, _⟩, _⟩ := he
    exact g5
theorem zero_class (w : World) (ok : Nat → Prop) : Kd.FK k33 w ok z33 [.string ⟨#[]⟩, .string ⟨#[]⟩, .bool false, .bool false, .slice none 0 0, .slice none 0 0, .slice none 0 0] := fun W' _ => k33_mk W' z33 (Nat.le_refl _) (Kd.C_nil _ _) (Nat.le_refl _) (Kd.C_nil _ _) (Nat.le_refl _) (Kd.C_nil _ _)
theorem zero_method (w : World) (ok : Nat → Prop) : Kd.FK k37 w ok z37 [.string ⟨#[]⟩, .string ⟨#[]⟩, .bool false, .bool false, .int .i64 0, .slice none 0 0] := fun W' _ => k37_mk W' z37 (Nat.le_refl _) (Kd.C_nil _ _)
theorem FK_on {α : Type} {d : Kd α} {w w' : World} {P : Nat → Prop} {x : α} {cs : List Value} (h : Kd.FK d w P x cs) (hb : Below w.heap.size w w') : Kd.FK d w' (fun k => P k ∨ w.heap.size ≤ k) x cs := Foot.mono (Foot.step h (fun k _ hlt => hb.block k hlt)) (fun k hk => .inl hk)
end Go.Proofs.Ytfplcohjnlbfjaa.Hand
end

section
namespace Go.Proofs.Ytfplcohjnlbfjaa.Hand
open Go.RowKit Go.Proofs.YtfplcohjnlbfjaaW.PrintWords Go.Proofs.YtfplcohjnlbfjaaW.PrintLast Go.Proofs.YtfplcohjnlbfjaaW.PrintMore
set_option linter.unusedVariables false
set_option linter.unusedSimpArgs false
theorem cells3 {w : World} {g : Nat} {t : TypeId} {u0 u1 u2 : Value} (h : w.heap[g]? = some (Obj.cells #[u0, u1, u2] t (0, 0))) : w.cell? ⟨g, 0, none⟩ = some u0 ∧ w.cell? ⟨g, 1, none⟩ = some u1 ∧ w.cell? ⟨g, 2, none⟩ = some u2 := by
  have c0 := blk_cell h 0
  have c1 := blk_cell h 1
  have c2 := blk_cell h 2
  simp only [List.getElem?_toArray, List.getElem?_cons_zero, List.getElem?_cons_succ] at c0 c1 c2
  exact ⟨c0, c1, c2⟩
theorem cells5 {w : World} {g : Nat} {t : TypeId} {u0 u1 u2 u3 u4 : Value} (h : w.heap[g]? = some (Obj.cells #[u0, u1, u2, u3, u4] t (0, 0))) : w.cell? ⟨g, 0, none⟩ = some u0 ∧ w.cell? ⟨g, 1, none⟩ = some u1 ∧ w.cell? ⟨g, 2, none⟩ = some u2 ∧ w.cell? ⟨g, 3, none⟩ = some u3 ∧ w.cell? ⟨g, 4, none⟩ = some u4 := by
  have c0 := blk_cell h 0
  have c1 := blk_cell h 1
  have c2 := blk_cell h 2
  have c3 := blk_cell h 3
  have c4 := blk_cell h 4
  simp only [List.getElem?_toArray, List.getElem?_cons_zero, List.getElem?_cons_succ] at c0 c1 c2 c3 c4
  exact ⟨c0, c1, c2, c3, c4⟩
theorem cells6 {w : World} {g : Nat} {t : TypeId} {u0 u1 u2 u3 u4 u5 : Value} (h : w.heap[g]? = some (Obj.cells #[u0, u1, u2, u3, u4, u5] t (0, 0))) : w.cell? ⟨g, 0, none⟩ = some u0 ∧ w.cell? ⟨g, 1, none⟩ = some u1 ∧ w.cell? ⟨g, 2, none⟩ = some u2 ∧ w.cell? ⟨g, 3, none⟩ = some u3 ∧ w.cell? ⟨g, 4, none⟩ = some u4 ∧ w.cell? ⟨g, 5, none⟩ = some u5 := by
  have c0 := blk_cell h 0
  have c1 := blk_cell h 1
  have c2 := blk_cell h 2
  have c3 := blk_cell h 3
  have c4 := blk_cell h 4
  have c5 := blk_cell h 5
  simp only [List.getElem?_toArray, List.getElem?_cons_zero, List.getElem?_cons_succ] at c0 c1 c2 c3 c4 c5
  exact ⟨c0, c1, c2, c3, c4, c5⟩
theorem cells7 {w : World} {g : Nat} {t : TypeId} {u0 u1 u2 u3 u4 u5 u6 : Value} (h : w.heap[g]? = some (Obj.cells #[u0, u1, u2, u3, u4, u5, u6] t (0, 0))) : w.cell? ⟨g, 0, none⟩ = some u0 ∧ w.cell? ⟨g, 1, none⟩ = some u1 ∧ w.cell? ⟨g, 2, none⟩ = some u2 ∧ w.cell? ⟨g, 3, none⟩ = some u3 ∧ w.cell? ⟨g, 4, none⟩ = some u4 ∧ w.cell? ⟨g, 5, none⟩ = some u5 ∧ w.cell? ⟨g, 6, none⟩ = some u6 := by
  have c0 := blk_cell h 0
  have c1 := blk_cell h 1
  have c2 := blk_cell h 2
  have c3 := blk_cell h 3
  have c4 := blk_cell h 4
  have c5 := blk_cell h 5
  have c6 := blk_cell h 6
  simp only [List.getElem?_toArray, List.getElem?_cons_zero, List.getElem?_cons_succ] at c0 c1 c2 c3 c4 c5 c6
  exact ⟨c0, c1, c2, c3, c4, c5, c6⟩
def knownC (l : List S33) (name : ByteArray) : S33 := (l.find? (isC name)).getD z33
def hasC (l : List S33) (name : ByteArray) : Bool := (l.find? (isC name)).isSome
set_option maxHeartbeats 8000000 in
set_option maxRecDepth 20000 in
theorem find_known (P : Nat → Prop) (A0 : Option Addr) (c0 : Nat) (l0 : List S33) (A1 : Option Addr) (c1 : Nat) (l1 : List ByteArray) (a2 a3 a4 : ByteArray) (a1 : ByteArray) (w : World) (hs : Kd.F k33 w P A0 l0.length l0) (hc : l0.length ≤ c0) (hr1 : Kd.C Kd.string w A1 l1.length l1) (hc1 : l1.length ≤ c1) :
    Calls Try.prog 35 #[.agg #[.slice A0 l0.length c0, .slice A1 l1.length c1, .string a2, .string a3, .string a4], .string a1] w fun e w' => ∃ A4 c4 A5 c5 A6 c6, e = .returned (.agg #[.string (knownC l0 a1).f0, .string (knownC l0 a1).f1, .bool (knownC l0 a1).f2, .bool (knownC l0 a1).f3, .slice A4 (knownC l0 a1).f4.length c4, .slice A5 (knownC l0 a1).f5.length c5, .slice A6 (knownC l0 a1).f6.length c6]) ∧ Kd.FK k33 w' (fun k => P k ∨ w.heap.size ≤ k) (knownC l0 a1) [.string (knownC l0 a1).f0, .string (knownC l0 a1).f1, .bool (knownC l0 a1).f2, .bool (knownC l0 a1).f3, .slice A4 (knownC l0 a1).f4.length c4, .slice A5 (knownC l0 a1).f5.length c5, .slice A6 (knownC l0 a1).f6.length c6] ∧ Below w.heap.size w w' := by
  have HN := Aside0.mk (fun W (hW : Below w.heap.size w W) => norm_Class.calls A0 c0 l0 A1 c1 l1 a2 a3 a4 a1 _ W (Kd.C_below (Kd.F_now hs) hW) hc (Kd.C_below hr1 hW) hc1 rfl)
  clear hr1
  rcases idxI_cases (isC a1) l0 with ⟨hn, hf⟩ | ⟨i, hi, hn, hf⟩
  · rw [hn] at HN
    have hx : knownC l0 a1 = z33 := by unfold knownC; rw [hf]; rfl
    have hh : hasC l0 a1 = false := by unfold hasC; rw [hf]; rfl
    rw [hx]
    clear hx hh hf hn hs
    go_enter Try.func35, Try.ntmps35
    go_wp2_with fail
    refine (HN.out _ (below_alloc (below_alloc (Below.refl _ _) _) _)).mono ?_
    rintro e w1 ⟨rfl, hb⟩
    have HB := Aside0.mk (below_step (below_alloc (below_alloc (Below.refl w.heap.size w) (Obj.cells #[.slice A0 l0.length c0, .slice A1 l1.length c1, .string a2, .string a3, .string a4] 27)) (Obj.cells #[.string ⟨#[]⟩, .string ⟨#[]⟩, .bool false, .bool false, .slice none 0 0, .slice none 0 0, .slice none 0 0] 33)) hb)
    have hz := blk_below (World.alloc_heap_new (w.alloc (Obj.cells #[.slice A0 l0.length c0, .slice A1 l1.length c1, .string a2, .string a3, .string a4] 27)) (Obj.cells #[.string ⟨#[]⟩, .string ⟨#[]⟩, .bool false, .bool false, .slice none 0 0, .slice none 0 0, .slice none 0 0] 33)) hb
    rw [World.size_alloc] at hz
    have HZ := Aside0.mk hz
    clear hz
    have hp0 := blk_cell (blk_below (blk_alloc (World.alloc_heap_new w (Obj.cells #[.slice A0 l0.length c0, .slice A1 l1.length c1, .string a2, .string a3, .string a4] 27)) (Obj.cells #[.string ⟨#[]⟩, .string ⟨#[]⟩, .bool false, .bool false, .slice none 0 0, .slice none 0 0, .slice none 0 0] 33)) hb) 0
    simp only [List.getElem?_toArray, List.getElem?_cons_zero] at hp0
    obtain ⟨z0, z1, z2, z3, z4, z5, z6⟩ := cells7 HZ.out
    have zf := blk_frozen HZ.out
    clear hb
    go_wp2_with fail
    exact bodyPost_ret (results_cell_row rfl _ _ (w.heap.size + 1) 33 #[.string ⟨#[]⟩, .string ⟨#[]⟩, .bool false, .bool false, .slice none 0 0, .slice none 0 0, .slice none 0 0] (0, 0) _ rfl (set7_own HZ.out _ _ _ _ _ _ _) Try.underlying33 rfl (by kernel_rfl)) rfl ⟨_, _, _, _, _, _, rfl, zero_class _ _, set7_below HB.out (Nat.le_succ _) _ _ _ _ _ _ _⟩
  · rw [hn] at HN
    have hx : knownC l0 a1 = l0[i] := by unfold knownC; rw [hf]; rfl
    have hh : hasC l0 a1 = true := by unfold hasC; rw [hf]; rfl
    obtain ⟨ad, A4, c4, A5, c5, A6, c6, rfl, hAt, hFK⟩ := ClAt_of hs hi
    rw [hx]
    obtain ⟨x, hxe⟩ : ∃ x, l0[i] = x := ⟨_, rfl⟩
    rw [hxe] at hAt hFK ⊢
    have HAT := Aside0.mk hAt
    have HFK := Aside0.mk hFK
    have d1 : decide ((i : Int) < 0) = false := decide_eq_false (by omega)
    have d2 : decide ((i : Int) ≥ 0) = true := decide_eq_true (by omega)
    have d3 : (0 : Int) ≤ (i : Int) := by omega
    have d4 : (i : Int) < (l0.length : Int) := by omega
    clear hx hh hf hn hs hxe hAt hFK
    go_enter Try.func35, Try.ntmps35
    go_wp2_with fail
    refine (HN.out _ (below_alloc (below_alloc (Below.refl _ _) _) _)).mono ?_
    rintro e w1 ⟨rfl, hb⟩
    have HB := Aside0.mk (below_step (below_alloc (below_alloc (Below.refl w.heap.size w) (Obj.cells #[.slice (some ad) l0.length c0, .slice A1 l1.length c1, .string a2, .string a3, .string a4] 27)) (Obj.cells #[.string ⟨#[]⟩, .string ⟨#[]⟩, .bool false, .bool false, .slice none 0 0, .slice none 0 0, .slice none 0 0] 33)) hb)
    have hz := blk_below (World.alloc_heap_new (w.alloc (Obj.cells #[.slice (some ad) l0.length c0, .slice A1 l1.length c1, .string a2, .string a3, .string a4] 27)) (Obj.cells #[.string ⟨#[]⟩, .string ⟨#[]⟩, .bool false, .bool false, .slice none 0 0, .slice none 0 0, .slice none 0 0] 33)) hb
    rw [World.size_alloc] at hz
    have HZ := Aside0.mk hz
    clear hz
    have hp0 := blk_cell (blk_below (blk_alloc (World.alloc_heap_new w (Obj.cells #[.slice (some ad) l0.length c0, .slice A1 l1.length c1, .string a2, .string a3, .string a4] 27)) (Obj.cells #[.string ⟨#[]⟩, .string ⟨#[]⟩, .bool false, .bool false, .slice none 0 0, .slice none 0 0, .slice none 0 0] 33)) hb) 0
    simp only [List.getElem?_toArray, List.getElem?_cons_zero] at hp0
    obtain ⟨z0, z1, z2, z3, z4, z5, z6⟩ := cells7 HZ.out
    have zf := blk_frozen HZ.out
    clear hb
    obtain ⟨h0, h1, h2, h3, h4, h5, h6⟩ := HAT.out.below HB.out
    go_wp2_with fail
    exact bodyPost_ret (results_cell_row rfl _ _ (w.heap.size + 1) 33 #[.string x.f0, .string x.f1, .bool x.f2, .bool x.f3, .slice A4 x.f4.length c4, .slice A5 x.f5.length c5, .slice A6 x.f6.length c6] (0, 0) _ rfl (set7_own HZ.out _ _ _ _ _ _ _) Try.underlying33 rfl (by kernel_rfl)) rfl ⟨_, _, _, _, _, _, rfl, FK_on HFK.out (set7_below HB.out (Nat.le_succ _) _ _ _ _ _ _ _), set7_below HB.out (Nat.le_succ _) _ _ _ _ _ _ _⟩
end Go.Proofs.Ytfplcohjnlbfjaa.Hand
end

section
namespace Go.Proofs.Ytfplcohjnlbfjaa.Hand
open Go.RowKit Go.Proofs.YtfplcohjnlbfjaaW.PrintWords Go.Proofs.YtfplcohjnlbfjaaW.PrintLast Go.Proofs.YtfplcohjnlbfjaaW.PrintMore
set_option linter.unusedVariables false
set_option linter.unusedSimpArgs false
def getM (l : List S33) (c n d : ByteArray) : S37 := ((knownC l c).f6.find? (isM n d)).getD z37
def hasM (l : List S33) (c n d : ByteArray) : Bool := ((knownC l c).f6.find? (isM n d)).isSome
theorem set6_far {w : World} {R k : Nat} (h : k ≠ R) (v0 v1 v2 v3 v4 v5 : Value) : ((((((w.setCell ⟨R, 0, none⟩ v0).setCell ⟨R, 1, none⟩ v1).setCell ⟨R, 2, none⟩ v2).setCell ⟨R, 3, none⟩ v3).setCell ⟨R, 4, none⟩ v4).setCell ⟨R, 5, none⟩ v5).heap[k]? = w.heap[k]? := by
  rw [Below.heap_setCell _ _ _ _ h, Below.heap_setCell _ _ _ _ h, Below.heap_setCell _ _ _ _ h, Below.heap_setCell _ _ _ _ h, Below.heap_setCell _ _ _ _ h, Below.heap_setCell _ _ _ _ h]
set_option maxHeartbeats 16000000 in
set_option maxRecDepth 20000 in
theorem find_get (P : Nat → Prop) (A0 : Option Addr) (c0 : Nat) (l0 : List S33) (A1 : Option Addr) (c1 : Nat) (l1 : List ByteArray) (a2 a3 a4 : ByteArray) (b0 b1 b2 : ByteArray) (w : World) (hs : Kd.F k33 w P A0 l0.length l0) (hc : l0.length ≤ c0) (hr1 : Kd.C Kd.string w A1 l1.length l1) (hc1 : l1.length ≤ c1) :
    Calls Try.prog 11 #[.agg #[.slice A0 l0.length c0, .slice A1 l1.length c1, .string a2, .string a3, .string a4], .agg #[.string b0, .string b1, .string b2]] w fun e w' => ∃ A5 c5, e = .returned (.tuple #[.agg #[.string (getM l0 b0 b1 b2).f0, .string (getM l0 b0 b1 b2).f1, .bool (getM l0 b0 b1 b2).f2, .bool (getM l0 b0 b1 b2).f3, .int .i64 (getM l0 b0 b1 b2).f4, .slice A5 (getM l0 b0 b1 b2).f5.length c5], .bool (hasM l0 b0 b1 b2)]) ∧ Kd.FK k37 w' (fun k => P k ∨ w.heap.size ≤ k) (getM l0 b0 b1 b2) [.string (getM l0 b0 b1 b2).f0, .string (getM l0 b0 b1 b2).f1, .bool (getM l0 b0 b1 b2).f2, .bool (getM l0 b0 b1 b2).f3, .int .i64 (getM l0 b0 b1 b2).f4, .slice A5 (getM l0 b0 b1 b2).f5.length c5] ∧ Below w.heap.size w w' := by
  have HK := Aside0.mk (find_known (fun k => P k ∧ k < w.heap.size) A0 c0 l0 A1 c1 l1 a2 a3 a4 b0 (((w.alloc (Obj.cells #[.slice A0 l0.length c0, .slice A1 l1.length c1, .string a2, .string a3, .string a4] 27)).alloc (Obj.cells #[.string b0, .string b1, .string b2] 25)).alloc (Obj.cells #[.string ⟨#[]⟩, .string ⟨#[]⟩, .bool false, .bool false, .int .i64 0, .slice none 0 0] 37)) (Kd.F_below (Kd.F_bound hs) (below_alloc (below_alloc (below_alloc (Below.refl _ _) _) _) _)) hc (Kd.C_below hr1 (below_alloc (below_alloc (below_alloc (Below.refl _ _) _) _) _)) hc1)
  have HM : Aside0 ((((w.alloc (Obj.cells #[.slice A0 l0.length c0, .slice A1 l1.length c1, .string a2, .string a3, .string a4] 27)).alloc (Obj.cells #[.string b0, .string b1, .string b2] 25)).alloc (Obj.cells #[.string ⟨#[]⟩, .string ⟨#[]⟩, .bool false, .bool false, .int .i64 0, .slice none 0 0] 37)).heap[w.heap.size + 1]? = some (Obj.cells #[.string b0, .string b1, .string b2] 25 (0, 0))) := ⟨by
    have h := World.alloc_heap_new (w.alloc (Obj.cells #[.slice A0 l0.length c0, .slice A1 l1.length c1, .string a2, .string a3, .string a4] 27)) (Obj.cells #[.string b0, .string b1, .string b2] 25)
    rw [World.size_alloc] at h
    exact blk_alloc h _⟩
  have HZ : Aside0 ((((w.alloc (Obj.cells #[.slice A0 l0.length c0, .slice A1 l1.length c1, .string a2, .string a3, .string a4] 27)).alloc (Obj.cells #[.string b0, .string b1, .string b2] 25)).alloc (Obj.cells #[.string ⟨#[]⟩, .string ⟨#[]⟩, .bool false, .bool false, .int .i64 0, .slice none 0 0] 37)).heap[w.heap.size + 1 + 1]? = some (Obj.cells #[.string ⟨#[]⟩, .string ⟨#[]⟩, .bool false, .bool false, .int .i64 0, .slice none 0 0] 37 (0, 0))) := ⟨by
    have h := World.alloc_heap_new ((w.alloc (Obj.cells #[.slice A0 l0.length c0, .slice A1 l1.length c1, .string a2, .string a3, .string a4] 27)).alloc (Obj.cells #[.string b0, .string b1, .string b2] 25)) (Obj.cells #[.string ⟨#[]⟩, .string ⟨#[]⟩, .bool false, .bool false, .int .i64 0, .slice none 0 0] 37)
    rw [World.size_alloc, World.size_alloc] at h
    exact h⟩
  unfold getM hasM
  obtain ⟨x, hx⟩ : ∃ x, knownC l0 b0 = x := ⟨_, rfl⟩
  rw [hx] at HK ⊢
  clear hx hr1 hs
  rcases idxI_cases (isM b1 b2) x.f6 with ⟨hn, hf⟩ | ⟨i, hi, hn, hf⟩
  · have HN := Aside0.mk hn
    have hy : (x.f6.find? (isM b1 b2)).getD z37 = z37 := by rw [hf]; rfl
    have hh : (x.f6.find? (isM b1 b2)).isSome = false := by rw [hf]; rfl
    rw [hy, hh]
    clear hy hh hf hn
    go_enter Try.func11, Try.ntmps11
    go_wp2_with fail
    refine (HK.out).mono ?_
    rintro e w1 ⟨A4, c4, A5, c5, A6, c6, rfl, hFK, hb1⟩
    have HB1 := Aside0.mk (below_step (below_alloc (below_alloc (below_alloc (Below.refl w.heap.size w) (Obj.cells #[.slice A0 l0.length c0, .slice A1 l1.length c1, .string a2, .string a3, .string a4] 27)) (Obj.cells #[.string b0, .string b1, .string b2] 25)) (Obj.cells #[.string ⟨#[]⟩, .string ⟨#[]⟩, .bool false, .bool false, .int .i64 0, .slice none 0 0] 37)) hb1)
    have HZ1 := Aside0.mk (blk_below HZ.out hb1)
    obtain ⟨e0, e1, e2⟩ := cells3 (blk_below HM.out hb1)
    have hl1 : w.heap.size + 1 < w1.heap.size := blk_lt (blk_below HM.out hb1)
    have hl2 : w.heap.size + 1 + 1 < w1.heap.size := blk_lt HZ1.out
    have HFK := Aside0.mk hFK
    clear hb1 hFK
    go_wp2_with fail
    have HO := Aside0.mk (class_opens HFK.out)
    have HNM := Aside0.mk (norm_Method.calls x.f0 x.f1 x.f2 x.f3 A4 c4 x.f4 A5 c5 x.f5 A6 c6 x.f6 b1 b2 _ (w1.alloc (Obj.cells #[.string x.f0, .string x.f1, .bool x.f2, .bool x.f3, .slice A4 x.f4.length c4, .slice A5 x.f5.length c5, .slice A6 x.f6.length c6] 33)) (Kd.C_below HO.out.2.1 (below_alloc (Below.refl _ _) _)) HO.out.1 (Kd.C_below HO.out.2.2.2.1 (below_alloc (Below.refl _ _) _)) HO.out.2.2.1 (Kd.C_below HO.out.2.2.2.2.2 (below_alloc (Below.refl _ _) _)) HO.out.2.2.2.2.1 rfl)
    rw [HN.out] at HNM
    refine (HNM.out).mono ?_
    rintro e w2 ⟨rfl, hb2⟩
    have HB12 := Aside0.mk (below_step (below_alloc (Below.refl w1.heap.size w1) (Obj.cells #[.string x.f0, .string x.f1, .bool x.f2, .bool x.f3, .slice A4 x.f4.length c4, .slice A5 x.f5.length c5, .slice A6 x.f6.length c6] 33)) hb2)
    have HB2 := Aside0.mk (below_step HB1.out HB12.out)
    have HZ2 := Aside0.mk (blk_below HZ1.out HB12.out)
    obtain ⟨z0, z1, z2, z3, z4, z5⟩ := cells6 HZ2.out
    have zf := blk_frozen HZ2.out
    obtain ⟨k0, k1, k2, k3, k4, k5, k6⟩ := cells7 (blk_below (World.alloc_heap_new w1 (Obj.cells #[.string x.f0, .string x.f1, .bool x.f2, .bool x.f3, .slice A4 x.f4.length c4, .slice A5 x.f5.length c5, .slice A6 x.f6.length c6] 33)) hb2)
    clear hb2 e0 e1 e2 HNM HO k0 k1 k2 k3 k4 k5
    go_wp2_with fail
    exact bodyPost_ret (results_ct rfl _ _ (w.heap.size + 1 + 1) 37 #[.string ⟨#[]⟩, .string ⟨#[]⟩, .bool false, .bool false, .int .i64 0, .slice none 0 0] (0, 0) _ rfl (set6_own HZ2.out _ _ _ _ _ _) Try.underlying37 rfl (by kernel_rfl)) rfl ⟨_, _, rfl, zero_method _ _, set6_below HB2.out (by omega) _ _ _ _ _ _⟩
  · have HN := Aside0.mk hn
    have hy : (x.f6.find? (isM b1 b2)).getD z37 = x.f6[i] := by rw [hf]; rfl
    have hh : (x.f6.find? (isM b1 b2)).isSome = true := by rw [hf]; rfl
    rw [hy, hh]
    clear hy hh hf hn
    have d2 : decide ((i : Int) ≥ 0) = true := decide_eq_true (by omega)
    have d3 : (0 : Int) ≤ (i : Int) := by omega
    have d4 : (i : Int) < (x.f6.length : Int) := by omega
    have HI := Aside0.mk hi
    obtain ⟨y, hye⟩ : ∃ y, x.f6[i] = y := ⟨_, rfl⟩
    rw [hye]
    have HYE := Aside0.mk hye
    clear hye
    go_enter Try.func11, Try.ntmps11
    go_wp2_with fail
    refine (HK.out).mono ?_
    rintro e w1 ⟨A4, c4, A5, c5, A6, c6, rfl, hFK, hb1⟩
    have HB1 := Aside0.mk (below_step (below_alloc (below_alloc (below_alloc (Below.refl w.heap.size w) (Obj.cells #[.slice A0 l0.length c0, .slice A1 l1.length c1, .string a2, .string a3, .string a4] 27)) (Obj.cells #[.string b0, .string b1, .string b2] 25)) (Obj.cells #[.string ⟨#[]⟩, .string ⟨#[]⟩, .bool false, .bool false, .int .i64 0, .slice none 0 0] 37)) hb1)
    have HZ1 := Aside0.mk (blk_below HZ.out hb1)
    obtain ⟨e0, e1, e2⟩ := cells3 (blk_below HM.out hb1)
    have hl1 : w.heap.size + 1 < w1.heap.size := blk_lt (blk_below HM.out hb1)
    have hl2 : w.heap.size + 1 + 1 < w1.heap.size := blk_lt HZ1.out
    have HFK := Aside0.mk hFK
    clear hb1 hFK
    go_wp2_with fail
    have HO := Aside0.mk (class_opens HFK.out)
    have HNM := Aside0.mk (norm_Method.calls x.f0 x.f1 x.f2 x.f3 A4 c4 x.f4 A5 c5 x.f5 A6 c6 x.f6 b1 b2 _ (w1.alloc (Obj.cells #[.string x.f0, .string x.f1, .bool x.f2, .bool x.f3, .slice A4 x.f4.length c4, .slice A5 x.f5.length c5, .slice A6 x.f6.length c6] 33)) (Kd.C_below HO.out.2.1 (below_alloc (Below.refl _ _) _)) HO.out.1 (Kd.C_below HO.out.2.2.2.1 (below_alloc (Below.refl _ _) _)) HO.out.2.2.1 (Kd.C_below HO.out.2.2.2.2.2 (below_alloc (Below.refl _ _) _)) HO.out.2.2.2.2.1 rfl)
    rw [HN.out] at HNM
    refine (HNM.out).mono ?_
    rintro e w2 ⟨rfl, hb2⟩
    have HB12 := Aside0.mk (below_step (below_alloc (Below.refl w1.heap.size w1) (Obj.cells #[.string x.f0, .string x.f1, .bool x.f2, .bool x.f3, .slice A4 x.f4.length c4, .slice A5 x.f5.length c5, .slice A6 x.f6.length c6] 33)) hb2)
    have HB2 := Aside0.mk (below_step HB1.out HB12.out)
    have HZ2 := Aside0.mk (blk_below HZ1.out HB12.out)
    obtain ⟨z0, z1, z2, z3, z4, z5⟩ := cells6 HZ2.out
    have zf := blk_frozen HZ2.out
    obtain ⟨k0, k1, k2, k3, k4, k5, k6⟩ := cells7 (blk_below (World.alloc_heap_new w1 (Obj.cells #[.string x.f0, .string x.f1, .bool x.f2, .bool x.f3, .slice A4 x.f4.length c4, .slice A5 x.f5.length c5, .slice A6 x.f6.length c6] 33)) hb2)
    clear hb2 e0 e1 e2 HNM HO k0 k1 k2 k3 k4 k5
    obtain ⟨ad, B5, d5, hA, hAt, hFM⟩ := MeAt_of (class_methods HFK.out) HI.out
    subst hA
    rw [HYE.out] at hAt hFM
    obtain ⟨h0, h1, h2, h3, h4, h5⟩ := hAt.below HB12.out
    have HFM := Aside0.mk hFM
    clear hAt hFM
    go_wp2_with fail
    exact bodyPost_ret (results_ct rfl _ _ (w.heap.size + 1 + 1) 37 #[.string y.f0, .string y.f1, .bool y.f2, .bool y.f3, .int .i64 y.f4, .slice B5 y.f5.length d5] (0, 0) _ rfl (set6_own HZ2.out _ _ _ _ _ _) Try.underlying37 rfl (by kernel_rfl)) rfl ⟨_, _, rfl, Foot.mono (Foot.step HFM.out (fun k hk hlt => (set6_far (by rcases hk with hk | hk; exact Nat.ne_of_lt (by omega); simp only [World.size_alloc] at hk; omega) _ _ _ _ _ _).trans (HB12.out.block k hlt))) (fun k hk => hk.elim (fun h => .inl h.1) (fun h => .inr (by simp only [World.size_alloc] at h; omega))), set6_below HB2.out (by omega) _ _ _ _ _ _⟩
end Go.Proofs.Ytfplcohjnlbfjaa.Hand
end

section
namespace Go.Proofs.Ytfplcohjnlbfjaa.Hand
open Go.RowKit Go.Shelf
variable {F : Fence} {n : Nat} {P : Program} {α : Type}
end Go.Proofs.Ytfplcohjnlbfjaa.Hand
end

section
namespace Go.Proofs.Ytfplcohjnlbfjaa.Hand
open Go.RowKit Go.Shelf
variable {F : Fence} {n : Nat} {P : Program} {α : Type}
end Go.Proofs.Ytfplcohjnlbfjaa.Hand
end

section
namespace Go.Proofs.Ytfplcohjnlbfjaa.Hand
open Go.RowKit Go.Proofs.YtfplcohjnlbfjaaW.PrintWords Go.Proofs.YtfplcohjnlbfjaaW.PrintLast Go.Proofs.YtfplcohjnlbfjaaW.PrintMore
set_option linter.unusedVariables false
set_option linter.unusedSimpArgs false
end Go.Proofs.Ytfplcohjnlbfjaa.Hand
end

section
namespace Go.Proofs.Ytfplcohjnlbfjaa.Hand
open Go.RowKit Go.Shelf Go.Proofs.YtfplcohjnlbfjaaW.PrintWords Go.Proofs.YtfplcohjnlbfjaaW.PrintLast Go.Proofs.YtfplcohjnlbfjaaW.PrintMore
set_option linter.unusedVariables false
set_option linter.unusedSimpArgs false
attribute [local go_sem] Oper.semAt_some
end Go.Proofs.Ytfplcohjnlbfjaa.Hand
end

section
namespace Go.Proofs.Ytfplcohjnlbfjaa.Hand
open Go.RowKit Go.Shelf Go.Proofs.YtfplcohjnlbfjaaW.PrintWords Go.Proofs.YtfplcohjnlbfjaaW.PrintLast Go.Proofs.YtfplcohjnlbfjaaW.PrintMore
set_option linter.unusedVariables false
set_option linter.unusedSimpArgs false
attribute [local go_sem] Oper.semAt_some
end Go.Proofs.Ytfplcohjnlbfjaa.Hand
end

section
namespace Go.Proofs.Ytfplcohjnlbfjaa.Hand
open Go.RowKit Go.Shelf Go.Proofs.YtfplcohjnlbfjaaW.PrintWords Go.Proofs.YtfplcohjnlbfjaaW.PrintLast Go.Proofs.YtfplcohjnlbfjaaW.PrintMore
set_option linter.unusedVariables false
set_option linter.unusedSimpArgs false
end Go.Proofs.Ytfplcohjnlbfjaa.Hand
end

section
namespace Go.Proofs.Ytfplcohjnlbfjaa.Hand
open Go.RowKit Go.Proofs.YtfplcohjnlbfjaaW.PrintWords Go.Proofs.YtfplcohjnlbfjaaW.PrintLast Go.Proofs.YtfplcohjnlbfjaaW.PrintMore
set_option linter.unusedVariables false
set_option linter.unusedSimpArgs false
end Go.Proofs.Ytfplcohjnlbfjaa.Hand
end

section
namespace Go.Proofs.Ytfplcohjnlbfjaa.Hand
open Go.RowKit Go.Proofs.YtfplcohjnlbfjaaW.PrintWords Go.Proofs.YtfplcohjnlbfjaaW.PrintLast Go.Proofs.YtfplcohjnlbfjaaW.PrintMore
set_option linter.unusedVariables false
set_option linter.unusedSimpArgs false
end Go.Proofs.Ytfplcohjnlbfjaa.Hand
end

section
namespace Go.Proofs.Ytfplcohjnlbfjaa.Hand
open Go.RowKit Go.Proofs.YtfplcohjnlbfjaaW.PrintWords Go.Proofs.YtfplcohjnlbfjaaW.PrintLast Go.Proofs.YtfplcohjnlbfjaaW.PrintMore
set_option linter.unusedVariables false
set_option linter.unusedSimpArgs false
end Go.Proofs.Ytfplcohjnlbfjaa.Hand
end

section
namespace Go.Proofs.Ytfplcohjnlbfjaa.Hand
open Go.RowKit Go.Proofs.YtfplcohjnlbfjaaW.PrintWords Go.Proofs.YtfplcohjnlbfjaaW.PrintLast Go.Proofs.YtfplcohjnlbfjaaW.PrintMore
set_option linter.unusedVariables false
set_option linter.unusedSimpArgs false
set_option maxRecDepth 20000
structure MkOwn (w : World) (base g : Nat) (a0 a1 a2 a3 a4 : Value) (m : S25) (pc : Int) (b0 b1 b2 b3 b4 b5 b6 b7 b8 : Value) (v : Value) (l : List S60) : Prop where
  b : w.heap[g]? = some (Obj.cells #[a0, a1, a2, a3, a4, .string m.f0, .string m.f1, .string m.f2, .int .i64 pc, b0, b1, b2, b3, b4, b5, b6, b7, b8, v] 85 (0, 0))
  hb : base ≤ g
  r : Kd.R k60 60 w base (fun _ => True) v l
theorem MkOwn.below {w w' : World} {base g : Nat} {a0 a1 a2 a3 a4 : Value} {m : S25} {pc : Int} {b0 b1 b2 b3 b4 b5 b6 b7 b8 : Value} {v : Value} {l : List S60} (h : MkOwn w base g a0 a1 a2 a3 a4 m pc b0 b1 b2 b3 b4 b5 b6 b7 b8 v l) (hb : Below w.heap.size w w') (hbz : base ≤ w.heap.size) : MkOwn w' base g a0 a1 a2 a3 a4 m pc b0 b1 b2 b3 b4 b5 b6 b7 b8 v l := { h with b := blk_below h.b hb, r := Kd.R_below h.r hb }
theorem MkOwn.put {w W w2 : World} {base g : Nat} {a0 a1 a2 a3 a4 : Value} {m : S25} {pc : Int} {b0 b1 b2 b3 b4 b5 b6 b7 b8 : Value} {v v' : Value} {l : List S60} {x : S60} (h : MkOwn W base g a0 a1 a2 a3 a4 m pc b0 b1 b2 b3 b4 b5 b6 b7 b8 v l) (hr : Kd.R k60 60 w2 base (fun _ => True) v' (l ++ [x])) (hg : W.grownBy w2 v.ownBlock) (hB : Below base w w2) :
    MkOwn (w2.setCell ⟨g, 18, none⟩ v') base g a0 a1 a2 a3 a4 m pc b0 b1 b2 b3 b4 b5 b6 b7 b8 v' (l ++ [x]) ∧ Below base w (w2.setCell ⟨g, 18, none⟩ v') := by
  have hb2 := blk_grown h.b hg (Kd.R_ne h.r h.b (by decide))
  exact ⟨{ b := blk_put hb2 18 v' rfl, hb := h.hb, r := Kd.R_set hr hb2 (by decide) 18 v' }, hB.setCell h.hb _⟩
def Kp (w w' : World) (g : Nat) (v v' : Value) : Prop := (w.heap.size ≤ w'.heap.size ∧ ∀ i, i < w.heap.size → i ≠ g → some i ≠ v.ownBlock → w'.heap[i]? = w.heap[i]?) ∧ (v'.ownBlock = v.ownBlock ∨ ∃ b, v'.ownBlock = some b ∧ w.heap.size ≤ b)
theorem Kp.trans {w W w' : World} {g : Nat} {v v1 v2 : Value} (h : Kp w W g v v1) (k : Kp W w' g v1 v2) : Kp w w' g v v2 := by
  obtain ⟨⟨h1, h2⟩, h3⟩ := h
  obtain ⟨⟨k1, k2⟩, k3⟩ := k
  refine ⟨⟨Nat.le_trans h1 k1, fun i hi hg hv => ?_⟩, ?_⟩
  · refine (k2 i (by omega) hg ?_).trans (h2 i hi hg hv)
    rcases h3 with h3 | ⟨b, h3, hb⟩
    · rw [h3]; exact hv
    · rw [h3]; intro e; injection e with e; omega
  · rcases k3 with k3 | ⟨b, k3, hb⟩
    · rw [k3]; exact h3
    · exact .inr ⟨b, k3, by omega⟩
theorem Kp.pre {w W w' : World} {g : Nat} {v v' : Value} (h : Below w.heap.size w W) (k : Kp W w' g v v') : Kp w w' g v v' := by
  obtain ⟨⟨k1, k2⟩, k3⟩ := k
  have hs := h.size
  refine ⟨⟨Nat.le_trans hs k1, fun i hi hg hv => (k2 i (by omega) hg hv).trans (h.block i hi)⟩, ?_⟩
  rcases k3 with k3 | ⟨b, k3, hb⟩
  · exact .inl k3
  · exact .inr ⟨b, k3, by omega⟩
theorem Kp.blk {w w' : World} {g i : Nat} {v v' : Value} {o : Obj} (h : Kp w w' g v v') (hb : w.heap[i]? = some o) (hg : i ≠ g) (hv : some i ≠ v.ownBlock) : w'.heap[i]? = some o := (h.1.2 i (blk_lt hb) hg hv).trans hb
theorem Kp.mk' {w X w2 : World} {g j : Nat} {v v' u : Value} (h : Below w.heap.size w X) (hg : X.grownBy w2 v.ownBlock) (hat : v'.ownBlock = v.ownBlock ∨ ∃ b, v'.ownBlock = some b ∧ X.heap.size ≤ b) : Kp w (w2.setCell ⟨g, j, none⟩ u) g v v' := by
  have hs := h.size
  refine ⟨⟨by rw [World.size_setCell]; exact Nat.le_trans hs hg.size, fun i hi hne hv => ?_⟩, ?_⟩
  · rw [Below.heap_setCell _ _ _ _ (show i ≠ (⟨g, j, none⟩ : Addr).block from hne)]
    exact (hg.block i (by omega) hv).trans (h.block i hi)
  · rcases hat with e | ⟨b, e, hb⟩
    · exact .inl e
    · exact .inr ⟨b, e, by omega⟩
theorem rangeAt_blk {w : World} {b : Nat} {cs : List Value} {t : TypeId} {fr : Nat × Nat} (h : w.heap[b]? = some (.cells cs.toArray t fr)) : w.rangeAt b 0 cs := fun j v hv => by
  rw [Nat.zero_add]
  unfold World.cell?
  simp only [h]
  simpa using hv
theorem cons_info : (Try.prog.info? 60).map (fun i => (i.zero, i.size, i.bytes)) = some (some (.agg (List.toArray ((.int .i64 0) :: (.int .i64 0) :: (.int .i64 0) :: (.string ⟨#[]⟩) :: (.string ⟨#[]⟩) :: (.string ⟨#[]⟩) :: (.int .i64 0) :: (.string ⟨#[]⟩) :: [.string ⟨#[]⟩, .string ⟨#[]⟩, .string ⟨#[]⟩, .string ⟨#[]⟩, .int .i64 0, .string ⟨#[]⟩, .int .i64 0, .string ⟨#[]⟩, .string ⟨#[]⟩, .string ⟨#[]⟩, .int .i64 0, .string ⟨#[]⟩, .string ⟨#[]⟩, .string ⟨#[]⟩, .string ⟨#[]⟩, .string ⟨#[]⟩, .int .i64 0, .string ⟨#[]⟩, .string ⟨#[]⟩, .string ⟨#[]⟩, .string ⟨#[]⟩, .int .i64 0, .string ⟨#[]⟩, .string ⟨#[]⟩, .string ⟨#[]⟩, .string ⟨#[]⟩, .string ⟨#[]⟩, .string ⟨#[]⟩, .string ⟨#[]⟩, .slice none 0 0]))), 38, 544) := by kernel_rfl
end Go.Proofs.Ytfplcohjnlbfjaa.Hand
end

section
namespace Go.Proofs.Ytfplcohjnlbfjaa.Hand
open Go.RowKit Go.Proofs.YtfplcohjnlbfjaaW.PrintWords Go.Proofs.YtfplcohjnlbfjaaW.PrintLast Go.Proofs.YtfplcohjnlbfjaaW.PrintMore
set_option linter.unusedVariables false
set_option linter.unusedSimpArgs false
set_option maxRecDepth 20000
set_option maxHeartbeats 64000000 in
theorem put_plain (base g : Nat) (a0 a1 a2 a3 a4 : Value) (m : S25) (pc : Int) (b0 b1 b2 b3 b4 b5 b6 b7 b8 : Value) (v : Value) (l : List S60) (c : S60) (w : World) (hm : MkOwn w base g a0 a1 a2 a3 a4 m pc b0 b1 b2 b3 b4 b5 b6 b7 b8 v l) (hk : c.f0 ≠ 1) (hc : c.f8 = []) (hl : l.length ≤ 1048576) (hbz : base ≤ w.heap.size) :
    Calls Try.prog 61 #[.pointer (some ⟨g, 0, none⟩), .agg (List.toArray ((.int .i64 c.f0) :: (.int .i64 c.f1) :: (.int .i64 c.f2.f0) :: (.string c.f2.f1.f0) :: (.string c.f2.f1.f1) :: (.string c.f2.f1.f2) :: (.int .i64 c.f2.f2) :: (.string c.f2.f3.f0) :: [.string c.f2.f3.f1, .string c.f2.f4.f0.f0, .string c.f2.f4.f0.f1, .string c.f2.f4.f0.f2, .int .i64 c.f2.f4.f1, .string c.f2.f4.f2, .int .i64 c.f3.f0, .string c.f3.f1.f0, .string c.f3.f1.f1, .string c.f3.f1.f2, .int .i64 c.f3.f2, .string c.f3.f3.f0, .string c.f3.f3.f1, .string c.f3.f4.f0.f0, .string c.f3.f4.f0.f1, .string c.f3.f4.f0.f2, .int .i64 c.f3.f4.f1, .string c.f3.f4.f2, .string c.f4.f0.f0, .string c.f4.f0.f1, .string c.f4.f0.f2, .int .i64 c.f4.f1, .string c.f4.f2, .string c.f5.f0, .string c.f5.f1, .string c.f6, .string c.f7.f0, .string c.f7.f1, .string c.f7.f2, .slice none 0 0]))] w fun e w' => ∃ v', e = .returned (.tuple #[]) ∧ MkOwn w' base g a0 a1 a2 a3 a4 m pc b0 b1 b2 b3 b4 b5 b6 b7 b8 v' (l ++ [(⟨c.f0, pc, c.f2, c.f3, ⟨m, c.f4.f1, c.f4.f2⟩, c.f5, c.f6, c.f7, c.f8⟩ : S60)]) ∧ Below base w w' ∧ Kp w w' g v v' := by
  obtain ⟨n, hn⟩ : ∃ n, n = w.heap.size := ⟨_, rfl⟩
  have hlt := blk_lt hm.b
  have hne : g ≠ n := by omega
  have hgn : g < n := by omega
  have hbn : base ≤ n := by omega
  have hab := below_alloc (Below.refl w.heap.size w) (Obj.cells (List.toArray ((.int .i64 c.f0) :: (.int .i64 c.f1) :: (.int .i64 c.f2.f0) :: (.string c.f2.f1.f0) :: (.string c.f2.f1.f1) :: (.string c.f2.f1.f2) :: (.int .i64 c.f2.f2) :: (.string c.f2.f3.f0) :: [.string c.f2.f3.f1, .string c.f2.f4.f0.f0, .string c.f2.f4.f0.f1, .string c.f2.f4.f0.f2, .int .i64 c.f2.f4.f1, .string c.f2.f4.f2, .int .i64 c.f3.f0, .string c.f3.f1.f0, .string c.f3.f1.f1, .string c.f3.f1.f2, .int .i64 c.f3.f2, .string c.f3.f3.f0, .string c.f3.f3.f1, .string c.f3.f4.f0.f0, .string c.f3.f4.f0.f1, .string c.f3.f4.f0.f2, .int .i64 c.f3.f4.f1, .string c.f3.f4.f2, .string c.f4.f0.f0, .string c.f4.f0.f1, .string c.f4.f0.f2, .int .i64 c.f4.f1, .string c.f4.f2, .string c.f5.f0, .string c.f5.f1, .string c.f6, .string c.f7.f0, .string c.f7.f1, .string c.f7.f2, .slice none 0 0])) 60)
  have HB0 := hm.hb
  have HMb := Aside0.mk ((hm.below hab hbz).b)
  have HRb : Aside0 ((w.alloc (Obj.cells (List.toArray ((.int .i64 c.f0) :: (.int .i64 c.f1) :: (.int .i64 c.f2.f0) :: (.string c.f2.f1.f0) :: (.string c.f2.f1.f1) :: (.string c.f2.f1.f2) :: (.int .i64 c.f2.f2) :: (.string c.f2.f3.f0) :: [.string c.f2.f3.f1, .string c.f2.f4.f0.f0, .string c.f2.f4.f0.f1, .string c.f2.f4.f0.f2, .int .i64 c.f2.f4.f1, .string c.f2.f4.f2, .int .i64 c.f3.f0, .string c.f3.f1.f0, .string c.f3.f1.f1, .string c.f3.f1.f2, .int .i64 c.f3.f2, .string c.f3.f3.f0, .string c.f3.f3.f1, .string c.f3.f4.f0.f0, .string c.f3.f4.f0.f1, .string c.f3.f4.f0.f2, .int .i64 c.f3.f4.f1, .string c.f3.f4.f2, .string c.f4.f0.f0, .string c.f4.f0.f1, .string c.f4.f0.f2, .int .i64 c.f4.f1, .string c.f4.f2, .string c.f5.f0, .string c.f5.f1, .string c.f6, .string c.f7.f0, .string c.f7.f1, .string c.f7.f2, .slice none 0 0])) 60)).heap[n]? = some (Obj.cells (List.toArray ((.int .i64 c.f0) :: (.int .i64 c.f1) :: (.int .i64 c.f2.f0) :: (.string c.f2.f1.f0) :: (.string c.f2.f1.f1) :: (.string c.f2.f1.f2) :: (.int .i64 c.f2.f2) :: (.string c.f2.f3.f0) :: [.string c.f2.f3.f1, .string c.f2.f4.f0.f0, .string c.f2.f4.f0.f1, .string c.f2.f4.f0.f2, .int .i64 c.f2.f4.f1, .string c.f2.f4.f2, .int .i64 c.f3.f0, .string c.f3.f1.f0, .string c.f3.f1.f1, .string c.f3.f1.f2, .int .i64 c.f3.f2, .string c.f3.f3.f0, .string c.f3.f3.f1, .string c.f3.f4.f0.f0, .string c.f3.f4.f0.f1, .string c.f3.f4.f0.f2, .int .i64 c.f3.f4.f1, .string c.f3.f4.f2, .string c.f4.f0.f0, .string c.f4.f0.f1, .string c.f4.f0.f2, .int .i64 c.f4.f1, .string c.f4.f2, .string c.f5.f0, .string c.f5.f1, .string c.f6, .string c.f7.f0, .string c.f7.f1, .string c.f7.f2, .slice none 0 0])) 60 (0, 0))) := ⟨by rw [hn]; exact World.alloc_heap_new w _⟩
  have HRr : Aside0 (Kd.R k60 60 (w.alloc (Obj.cells (List.toArray ((.int .i64 c.f0) :: (.int .i64 c.f1) :: (.int .i64 c.f2.f0) :: (.string c.f2.f1.f0) :: (.string c.f2.f1.f1) :: (.string c.f2.f1.f2) :: (.int .i64 c.f2.f2) :: (.string c.f2.f3.f0) :: [.string c.f2.f3.f1, .string c.f2.f4.f0.f0, .string c.f2.f4.f0.f1, .string c.f2.f4.f0.f2, .int .i64 c.f2.f4.f1, .string c.f2.f4.f2, .int .i64 c.f3.f0, .string c.f3.f1.f0, .string c.f3.f1.f1, .string c.f3.f1.f2, .int .i64 c.f3.f2, .string c.f3.f3.f0, .string c.f3.f3.f1, .string c.f3.f4.f0.f0, .string c.f3.f4.f0.f1, .string c.f3.f4.f0.f2, .int .i64 c.f3.f4.f1, .string c.f3.f4.f2, .string c.f4.f0.f0, .string c.f4.f0.f1, .string c.f4.f0.f2, .int .i64 c.f4.f1, .string c.f4.f2, .string c.f5.f0, .string c.f5.f1, .string c.f6, .string c.f7.f0, .string c.f7.f1, .string c.f7.f2, .slice none 0 0])) 60)) base (fun k => True ∧ k ≠ n) v l) := ⟨by rw [hn]; exact Kd.R_below (Kd.R_elderB hm.r w.heap.size (Nat.le_refl _)) hab⟩
  have HBe := Aside0.mk hab
  have hnn : w.heap.size ≤ n := by omega
  have HBW := Aside0.mk hbz
  have HSz : Aside0 ((w.alloc (Obj.cells (List.toArray ((.int .i64 c.f0) :: (.int .i64 c.f1) :: (.int .i64 c.f2.f0) :: (.string c.f2.f1.f0) :: (.string c.f2.f1.f1) :: (.string c.f2.f1.f2) :: (.int .i64 c.f2.f2) :: (.string c.f2.f3.f0) :: [.string c.f2.f3.f1, .string c.f2.f4.f0.f0, .string c.f2.f4.f0.f1, .string c.f2.f4.f0.f2, .int .i64 c.f2.f4.f1, .string c.f2.f4.f2, .int .i64 c.f3.f0, .string c.f3.f1.f0, .string c.f3.f1.f1, .string c.f3.f1.f2, .int .i64 c.f3.f2, .string c.f3.f3.f0, .string c.f3.f3.f1, .string c.f3.f4.f0.f0, .string c.f3.f4.f0.f1, .string c.f3.f4.f0.f2, .int .i64 c.f3.f4.f1, .string c.f3.f4.f2, .string c.f4.f0.f0, .string c.f4.f0.f1, .string c.f4.f0.f2, .int .i64 c.f4.f1, .string c.f4.f2, .string c.f5.f0, .string c.f5.f1, .string c.f6, .string c.f7.f0, .string c.f7.f1, .string c.f7.f2, .slice none 0 0])) 60)).heap.size = n + 1) := ⟨by rw [hn]; exact World.size_alloc w _⟩
  have HNil : Aside0 (∀ (W : World) (ok : Nat → Prop), (Kd.int .i64).R 3 W base ok (.slice none 0 0) ((⟨c.f0, pc, c.f2, c.f3, ⟨m, c.f4.f1, c.f4.f2⟩, c.f5, c.f6, c.f7, c.f8⟩ : S60) : S60).f8) := ⟨fun W ok => by show (Kd.int .i64).R 3 W base ok (.slice none 0 0) c.f8; rw [hc]; exact Kd.R_nil _ _ _ _ _⟩
  have HLn : Aside0 ((l.length + 1) * 544 ≤ 140737488355328) := ⟨by omega⟩
  have HVlt : Aside0 (∀ k, v.ownBlock = some k → k < n) := ⟨fun k hk => by rw [hn]; exact Kd.R_lt hm.r k hk⟩
  have HVne : Aside0 (some g ≠ v.ownBlock) := ⟨Kd.R_ne hm.r hm.b (by decide)⟩
  have hkb : (c.f0 == 1) = false := beq_eq_false_iff_ne.2 hk
  clear hm hab hk hc
  go_enter Try.func61, Try.ntmps61
  go_wp2_with fail
  rw [← hn]
  clear hn
  generalize w.alloc (Obj.cells (List.toArray ((.int .i64 c.f0) :: (.int .i64 c.f1) :: (.int .i64 c.f2.f0) :: (.string c.f2.f1.f0) :: (.string c.f2.f1.f1) :: (.string c.f2.f1.f2) :: (.int .i64 c.f2.f2) :: (.string c.f2.f3.f0) :: [.string c.f2.f3.f1, .string c.f2.f4.f0.f0, .string c.f2.f4.f0.f1, .string c.f2.f4.f0.f2, .int .i64 c.f2.f4.f1, .string c.f2.f4.f2, .int .i64 c.f3.f0, .string c.f3.f1.f0, .string c.f3.f1.f1, .string c.f3.f1.f2, .int .i64 c.f3.f2, .string c.f3.f3.f0, .string c.f3.f3.f1, .string c.f3.f4.f0.f0, .string c.f3.f4.f0.f1, .string c.f3.f4.f0.f2, .int .i64 c.f3.f4.f1, .string c.f3.f4.f2, .string c.f4.f0.f0, .string c.f4.f0.f1, .string c.f4.f0.f2, .int .i64 c.f4.f1, .string c.f4.f2, .string c.f5.f0, .string c.f5.f1, .string c.f6, .string c.f7.f0, .string c.f7.f1, .string c.f7.f2, .slice none 0 0])) 60) = X0 at HMb HRb HRr HBe HSz ⊢
  generalize Value.agg (List.toArray ((.int .i64 c.f0) :: (.int .i64 c.f1) :: (.int .i64 c.f2.f0) :: (.string c.f2.f1.f0) :: (.string c.f2.f1.f1) :: (.string c.f2.f1.f2) :: (.int .i64 c.f2.f2) :: (.string c.f2.f3.f0) :: [.string c.f2.f3.f1, .string c.f2.f4.f0.f0, .string c.f2.f4.f0.f1, .string c.f2.f4.f0.f2, .int .i64 c.f2.f4.f1, .string c.f2.f4.f2, .int .i64 c.f3.f0, .string c.f3.f1.f0, .string c.f3.f1.f1, .string c.f3.f1.f2, .int .i64 c.f3.f2, .string c.f3.f3.f0, .string c.f3.f3.f1, .string c.f3.f4.f0.f0, .string c.f3.f4.f0.f1, .string c.f3.f4.f0.f2, .int .i64 c.f3.f4.f1, .string c.f3.f4.f2, .string c.f4.f0.f0, .string c.f4.f0.f1, .string c.f4.f0.f2, .int .i64 c.f4.f1, .string c.f4.f2, .string c.f5.f0, .string c.f5.f1, .string c.f6, .string c.f7.f0, .string c.f7.f1, .string c.f7.f2, .slice none 0 0])) = cv
  replace HMb : Aside0 (X0.drew.heap[g]? = some (Obj.cells #[a0, a1, a2, a3, a4, .string m.f0, .string m.f1, .string m.f2, .int .i64 pc, b0, b1, b2, b3, b4, b5, b6, b7, b8, v] 85 (0, 0))) := ⟨HMb.out⟩
  replace HRb : Aside0 (X0.drew.heap[n]? = some (Obj.cells (List.toArray ((.int .i64 c.f0) :: (.int .i64 c.f1) :: (.int .i64 c.f2.f0) :: (.string c.f2.f1.f0) :: (.string c.f2.f1.f1) :: (.string c.f2.f1.f2) :: (.int .i64 c.f2.f2) :: (.string c.f2.f3.f0) :: [.string c.f2.f3.f1, .string c.f2.f4.f0.f0, .string c.f2.f4.f0.f1, .string c.f2.f4.f0.f2, .int .i64 c.f2.f4.f1, .string c.f2.f4.f2, .int .i64 c.f3.f0, .string c.f3.f1.f0, .string c.f3.f1.f1, .string c.f3.f1.f2, .int .i64 c.f3.f2, .string c.f3.f3.f0, .string c.f3.f3.f1, .string c.f3.f4.f0.f0, .string c.f3.f4.f0.f1, .string c.f3.f4.f0.f2, .int .i64 c.f3.f4.f1, .string c.f3.f4.f2, .string c.f4.f0.f0, .string c.f4.f0.f1, .string c.f4.f0.f2, .int .i64 c.f4.f1, .string c.f4.f2, .string c.f5.f0, .string c.f5.f1, .string c.f6, .string c.f7.f0, .string c.f7.f1, .string c.f7.f2, .slice none 0 0])) 60 (0, 0))) := ⟨HRb.out⟩
  replace HRr : Aside0 (Kd.R k60 60 X0.drew base (fun k => True ∧ k ≠ n) v l) := ⟨by apply Kd.R_drew; exact HRr.out⟩
  replace HBe : Aside0 (Below w.heap.size w X0.drew) := ⟨below_drew1 HBe.out⟩
  replace HSz : Aside0 (X0.drew.heap.size = n + 1) := ⟨HSz.out⟩
  obtain ⟨e5, e6, e7, e8⟩ : X0.drew.cell? ⟨g, 5, none⟩ = some (.string m.f0) ∧ X0.drew.cell? ⟨g, 6, none⟩ = some (.string m.f1) ∧ X0.drew.cell? ⟨g, 7, none⟩ = some (.string m.f2) ∧ X0.drew.cell? ⟨g, 8, none⟩ = some (.int .i64 pc) := ⟨blk_cell HMb.out 5, blk_cell HMb.out 6, blk_cell HMb.out 7, blk_cell HMb.out 8⟩
  obtain ⟨o1, o26, o27, o28⟩ : X0.drew.cell? ⟨n, 1, none⟩ = some (.int .i64 c.f1) ∧ X0.drew.cell? ⟨n, 26, none⟩ = some (.string c.f4.f0.f0) ∧ X0.drew.cell? ⟨n, 27, none⟩ = some (.string c.f4.f0.f1) ∧ X0.drew.cell? ⟨n, 28, none⟩ = some (.string c.f4.f0.f2) := ⟨blk_cell HRb.out 1, blk_cell HRb.out 26, blk_cell HRb.out 27, blk_cell HRb.out 28⟩
  have hfr := blk_frozen HRb.out
  refine start_ (n := 13) (S := fun w' => w'.cell? ⟨g, 5, none⟩ = some (.string m.f0) ∧ w'.cell? ⟨g, 6, none⟩ = some (.string m.f1) ∧ w'.cell? ⟨g, 7, none⟩ = some (.string m.f2) ∧ w'.cell? ⟨g, 8, none⟩ = some (.int .i64 pc)) (ds := [12]) #[false, false, false, false, false, false, false, false, false, false, false, false, false] (by kernel_rfl) rfl rfl ⟨e5, e6, e7, e8⟩ (fun hHeld => ?_)
  generalize X0.drew = X1 at HMb HRb HRr HBe HSz e5 e6 e7 e8 o1 o26 o27 o28 hfr hHeld ⊢
  refine pure_ (i := 0) (N := some 4) (v := ?_) (a' := ?_) #[true, false, false, false, false, false, false, false, false, false, false, false, false] rfl rfl (by kernel_rfl) (fun _ _ _ h => h) (Or.inl ⟨by rfl, ?_⟩) ?_ ?_
  rotate_left
  · intro w'
    go_simp
    with_reducible rfl
  rotate_left
  · simp only [Act.put, List.setIfInBounds_toArray, List.set_cons_zero, List.set_cons_succ, i64_w, i32_w]
    rfl
  refine pure_ (i := 1) (N := some 5) (v := ?_) (a' := ?_) #[true, true, false, false, false, false, false, false, false, false, false, false, false] rfl rfl (by kernel_rfl) (fun _ _ _ h => h) (Or.inl ⟨by rfl, ?_⟩) ?_ ?_
  rotate_left
  · intro w'
    go_simp
    with_reducible rfl
  rotate_left
  · simp only [Act.put, List.setIfInBounds_toArray, List.set_cons_zero, List.set_cons_succ, i64_w, i32_w]
    rfl
  refine pure_ (i := 2) (N := some 6) (v := ?_) (a' := ?_) #[true, true, true, false, false, false, false, false, false, false, false, false, false] rfl rfl (by kernel_rfl) (fun _ _ _ h => h) (Or.inl ⟨by rfl, ?_⟩) ?_ ?_
  rotate_left
  · intro w'
    go_simp
    with_reducible rfl
  rotate_left
  · simp only [Act.put, List.setIfInBounds_toArray, List.set_cons_zero, List.set_cons_succ, i64_w, i32_w]
    rfl
  refine pure_ (i := 4) (N := some 8) (v := ?_) (a' := ?_) #[true, true, true, false, true, false, false, false, false, false, false, false, false] rfl rfl (by kernel_rfl) (fun _ _ _ h => h) (Or.inl ⟨by rfl, ?_⟩) ?_ ?_
  rotate_left
  · intro w'
    go_simp
    with_reducible rfl
  rotate_left
  · simp only [Act.put, List.setIfInBounds_toArray, List.set_cons_zero, List.set_cons_succ, i64_w, i32_w]
    rfl
  refine pure_ (i := 5) (N := some 9) (v := ?_) (a' := ?_) #[true, true, true, false, true, true, false, false, false, false, false, false, false] rfl rfl (by kernel_rfl) (fun _ _ _ h => h) (Or.inl ⟨by rfl, ?_⟩) ?_ ?_
  rotate_left
  · intro w'
    go_simp
    with_reducible rfl
  rotate_left
  · simp only [Act.put, List.setIfInBounds_toArray, List.set_cons_zero, List.set_cons_succ, i64_w, i32_w]
    rfl
  refine pure_ (i := 6) (N := some 10) (v := ?_) (a' := ?_) #[true, true, true, false, true, true, true, false, false, false, false, false, false] rfl rfl (by kernel_rfl) (fun _ _ _ h => h) (Or.inl ⟨by rfl, ?_⟩) ?_ ?_
  rotate_left
  · intro w'
    go_simp
    with_reducible rfl
  rotate_left
  · simp only [Act.put, List.setIfInBounds_toArray, List.set_cons_zero, List.set_cons_succ, i64_w, i32_w]
    rfl
  refine take_ (i := 3) (N := some 7) (v := ?_) (a' := ?_) #[true, true, true, true, true, true, true, false, false, false, false, false, false] rfl rfl (by kernel_rfl) (fun _ _ _ h => h) (Or.inl ⟨by rfl, ?_⟩) hHeld ?_ ?_
  rotate_left
  · rintro w' ⟨s0, s1, s2, s3⟩
    go_simp
    with_reducible rfl
  rotate_left
  · simp only [Act.put, List.setIfInBounds_toArray, List.set_cons_zero, List.set_cons_succ, i64_w, i32_w]
    rfl
  refine pure_ (i := 8) (N := some 12) (v := ?_) (a' := ?_) #[true, true, true, true, true, true, true, false, true, false, false, false, false] rfl rfl (by kernel_rfl) (fun _ _ _ h => h) (Or.inl ⟨by rfl, ?_⟩) ?_ ?_
  rotate_left
  · intro w'
    go_simp
    with_reducible rfl
  rotate_left
  · simp only [Act.put, List.setIfInBounds_toArray, List.set_cons_zero, List.set_cons_succ, i64_w, i32_w]
    rfl
  refine take_ (i := 7) (N := some 11) (v := ?_) (a' := ?_) #[true, true, true, true, true, true, true, true, true, false, false, false, false] rfl rfl (by kernel_rfl) (fun _ _ _ h => h) (Or.inl ⟨by rfl, ?_⟩) hHeld ?_ ?_
  rotate_left
  · rintro w' ⟨s0, s1, s2, s3⟩
    go_simp
    with_reducible rfl
  rotate_left
  · simp only [Act.put, List.setIfInBounds_toArray, List.set_cons_zero, List.set_cons_succ, i64_w, i32_w]
    rfl
  refine one_ (i := 9) (N := none) #[true, true, true, true, true, true, true, true, true, true, false, false, false] rfl rfl (by kernel_rfl) (by decide) (fun K hK => ?_)
  refine skip_ (w1 := ?_) (by rfl) rfl ?_ ?_
  rotate_left
  · go_simp
    rfl
  refine hK.out _ _ ⟨((cell_far (p := ⟨n, 1, none⟩) (a := ⟨g, 5, none⟩) hne _).trans e5), ((cell_far (p := ⟨n, 1, none⟩) (a := ⟨g, 6, none⟩) hne _).trans e6), ((cell_far (p := ⟨n, 1, none⟩) (a := ⟨g, 7, none⟩) hne _).trans e7), ((cell_far (p := ⟨n, 1, none⟩) (a := ⟨g, 8, none⟩) hne _).trans e8)⟩ (fun hHeld => ?_)
  clear hK K
  refine pure_ (i := 10) (N := some 13) (v := ?_) (a' := ?_) #[true, true, true, true, true, true, true, true, true, true, true, false, false] rfl rfl (by kernel_rfl) (fun _ _ _ h => h) (Or.inl ⟨by rfl, ?_⟩) ?_ ?_
  rotate_left
  · intro w'
    go_simp
    with_reducible rfl
  rotate_left
  · simp only [Act.put, List.setIfInBounds_toArray, List.set_cons_zero, List.set_cons_succ, i64_w, i32_w]
    rfl
  refine pure_ (i := 11) (N := some 14) (v := ?_) (a' := ?_) #[true, true, true, true, true, true, true, true, true, true, true, true, false] rfl rfl (by kernel_rfl) (fun _ _ _ h => h) (Or.inl ⟨by rfl, ?_⟩) ?_ ?_
  rotate_left
  · intro w'
    go_simp
    with_reducible rfl
  rotate_left
  · simp only [Act.put, List.setIfInBounds_toArray, List.set_cons_zero, List.set_cons_succ, i64_w, i32_w]
    rfl
  refine last_ (i := 12) (N := none) #[true, true, true, true, true, true, true, true, true, true, true, true, true] rfl rfl (by kernel_rfl) (by decide) (fun K hK => ?_)
  refine skip_ (w1 := ?_) (by rfl) rfl ?_ ?_
  rotate_left
  · go_simp
    rfl
  refine hK.out _ _ ?_
  clear hK K
  refine done_ (by kernel_rfl) ?_
  have HMb := Aside0.mk (show ((((X1.setCell ⟨n, 1, none⟩ (.int .i64 pc)).setCell ⟨n, 26, none⟩ (.string m.f0)).setCell ⟨n, 27, none⟩ (.string m.f1)).setCell ⟨n, 28, none⟩ (.string m.f2)).heap[g]? = some (Obj.cells #[a0, a1, a2, a3, a4, .string m.f0, .string m.f1, .string m.f2, .int .i64 pc, b0, b1, b2, b3, b4, b5, b6, b7, b8, v] 85 (0, 0)) from by rw [Below.heap_setCell _ _ _ _ hne, Below.heap_setCell _ _ _ _ hne, Below.heap_setCell _ _ _ _ hne, Below.heap_setCell _ _ _ _ hne]; exact HMb.out)
  have HRb := Aside0.mk (show ((((X1.setCell ⟨n, 1, none⟩ (.int .i64 pc)).setCell ⟨n, 26, none⟩ (.string m.f0)).setCell ⟨n, 27, none⟩ (.string m.f1)).setCell ⟨n, 28, none⟩ (.string m.f2)).heap[n]? = some (Obj.cells (List.toArray ((.int .i64 c.f0) :: (.int .i64 pc) :: (.int .i64 c.f2.f0) :: (.string c.f2.f1.f0) :: (.string c.f2.f1.f1) :: (.string c.f2.f1.f2) :: (.int .i64 c.f2.f2) :: (.string c.f2.f3.f0) :: [.string c.f2.f3.f1, .string c.f2.f4.f0.f0, .string c.f2.f4.f0.f1, .string c.f2.f4.f0.f2, .int .i64 c.f2.f4.f1, .string c.f2.f4.f2, .int .i64 c.f3.f0, .string c.f3.f1.f0, .string c.f3.f1.f1, .string c.f3.f1.f2, .int .i64 c.f3.f2, .string c.f3.f3.f0, .string c.f3.f3.f1, .string c.f3.f4.f0.f0, .string c.f3.f4.f0.f1, .string c.f3.f4.f0.f2, .int .i64 c.f3.f4.f1, .string c.f3.f4.f2, .string m.f0, .string m.f1, .string m.f2, .int .i64 c.f4.f1, .string c.f4.f2, .string c.f5.f0, .string c.f5.f1, .string c.f6, .string c.f7.f0, .string c.f7.f1, .string c.f7.f2, .slice none 0 0])) 60 (0, 0)) from (blk_put (cs := (List.toArray ((.int .i64 c.f0) :: (.int .i64 pc) :: (.int .i64 c.f2.f0) :: (.string c.f2.f1.f0) :: (.string c.f2.f1.f1) :: (.string c.f2.f1.f2) :: (.int .i64 c.f2.f2) :: (.string c.f2.f3.f0) :: [.string c.f2.f3.f1, .string c.f2.f4.f0.f0, .string c.f2.f4.f0.f1, .string c.f2.f4.f0.f2, .int .i64 c.f2.f4.f1, .string c.f2.f4.f2, .int .i64 c.f3.f0, .string c.f3.f1.f0, .string c.f3.f1.f1, .string c.f3.f1.f2, .int .i64 c.f3.f2, .string c.f3.f3.f0, .string c.f3.f3.f1, .string c.f3.f4.f0.f0, .string c.f3.f4.f0.f1, .string c.f3.f4.f0.f2, .int .i64 c.f3.f4.f1, .string c.f3.f4.f2, .string m.f0, .string m.f1, .string c.f4.f0.f2, .int .i64 c.f4.f1, .string c.f4.f2, .string c.f5.f0, .string c.f5.f1, .string c.f6, .string c.f7.f0, .string c.f7.f1, .string c.f7.f2, .slice none 0 0]))) (blk_put (cs := (List.toArray ((.int .i64 c.f0) :: (.int .i64 pc) :: (.int .i64 c.f2.f0) :: (.string c.f2.f1.f0) :: (.string c.f2.f1.f1) :: (.string c.f2.f1.f2) :: (.int .i64 c.f2.f2) :: (.string c.f2.f3.f0) :: [.string c.f2.f3.f1, .string c.f2.f4.f0.f0, .string c.f2.f4.f0.f1, .string c.f2.f4.f0.f2, .int .i64 c.f2.f4.f1, .string c.f2.f4.f2, .int .i64 c.f3.f0, .string c.f3.f1.f0, .string c.f3.f1.f1, .string c.f3.f1.f2, .int .i64 c.f3.f2, .string c.f3.f3.f0, .string c.f3.f3.f1, .string c.f3.f4.f0.f0, .string c.f3.f4.f0.f1, .string c.f3.f4.f0.f2, .int .i64 c.f3.f4.f1, .string c.f3.f4.f2, .string m.f0, .string c.f4.f0.f1, .string c.f4.f0.f2, .int .i64 c.f4.f1, .string c.f4.f2, .string c.f5.f0, .string c.f5.f1, .string c.f6, .string c.f7.f0, .string c.f7.f1, .string c.f7.f2, .slice none 0 0]))) (blk_put (cs := (List.toArray ((.int .i64 c.f0) :: (.int .i64 pc) :: (.int .i64 c.f2.f0) :: (.string c.f2.f1.f0) :: (.string c.f2.f1.f1) :: (.string c.f2.f1.f2) :: (.int .i64 c.f2.f2) :: (.string c.f2.f3.f0) :: [.string c.f2.f3.f1, .string c.f2.f4.f0.f0, .string c.f2.f4.f0.f1, .string c.f2.f4.f0.f2, .int .i64 c.f2.f4.f1, .string c.f2.f4.f2, .int .i64 c.f3.f0, .string c.f3.f1.f0, .string c.f3.f1.f1, .string c.f3.f1.f2, .int .i64 c.f3.f2, .string c.f3.f3.f0, .string c.f3.f3.f1, .string c.f3.f4.f0.f0, .string c.f3.f4.f0.f1, .string c.f3.f4.f0.f2, .int .i64 c.f3.f4.f1, .string c.f3.f4.f2, .string c.f4.f0.f0, .string c.f4.f0.f1, .string c.f4.f0.f2, .int .i64 c.f4.f1, .string c.f4.f2, .string c.f5.f0, .string c.f5.f1, .string c.f6, .string c.f7.f0, .string c.f7.f1, .string c.f7.f2, .slice none 0 0]))) (blk_put (cs := (List.toArray ((.int .i64 c.f0) :: (.int .i64 c.f1) :: (.int .i64 c.f2.f0) :: (.string c.f2.f1.f0) :: (.string c.f2.f1.f1) :: (.string c.f2.f1.f2) :: (.int .i64 c.f2.f2) :: (.string c.f2.f3.f0) :: [.string c.f2.f3.f1, .string c.f2.f4.f0.f0, .string c.f2.f4.f0.f1, .string c.f2.f4.f0.f2, .int .i64 c.f2.f4.f1, .string c.f2.f4.f2, .int .i64 c.f3.f0, .string c.f3.f1.f0, .string c.f3.f1.f1, .string c.f3.f1.f2, .int .i64 c.f3.f2, .string c.f3.f3.f0, .string c.f3.f3.f1, .string c.f3.f4.f0.f0, .string c.f3.f4.f0.f1, .string c.f3.f4.f0.f2, .int .i64 c.f3.f4.f1, .string c.f3.f4.f2, .string c.f4.f0.f0, .string c.f4.f0.f1, .string c.f4.f0.f2, .int .i64 c.f4.f1, .string c.f4.f2, .string c.f5.f0, .string c.f5.f1, .string c.f6, .string c.f7.f0, .string c.f7.f1, .string c.f7.f2, .slice none 0 0]))) HRb.out 1 (.int .i64 pc) rfl) 26 (.string m.f0) rfl) 27 (.string m.f1) rfl) 28 (.string m.f2) rfl))
  have HRr := Aside0.mk (show Kd.R k60 60 ((((X1.setCell ⟨n, 1, none⟩ (.int .i64 pc)).setCell ⟨n, 26, none⟩ (.string m.f0)).setCell ⟨n, 27, none⟩ (.string m.f1)).setCell ⟨n, 28, none⟩ (.string m.f2)) base (fun k => True ∧ k ≠ n) v l from (Kd.R_far (p := ⟨n, 28, none⟩) (Kd.R_far (p := ⟨n, 27, none⟩) (Kd.R_far (p := ⟨n, 26, none⟩) (Kd.R_far (p := ⟨n, 1, none⟩) HRr.out (fun _ hk => hk.2) (.int .i64 pc)) (fun _ hk => hk.2) (.string m.f0)) (fun _ hk => hk.2) (.string m.f1)) (fun _ hk => hk.2) (.string m.f2)))
  have HBe := Aside0.mk (show Below w.heap.size w ((((X1.setCell ⟨n, 1, none⟩ (.int .i64 pc)).setCell ⟨n, 26, none⟩ (.string m.f0)).setCell ⟨n, 27, none⟩ (.string m.f1)).setCell ⟨n, 28, none⟩ (.string m.f2)) from ((((HBe.out.setCell hnn (.int .i64 pc)).setCell hnn (.string m.f0)).setCell hnn (.string m.f1)).setCell hnn (.string m.f2)))
  have HSz := Aside0.mk (show ((((X1.setCell ⟨n, 1, none⟩ (.int .i64 pc)).setCell ⟨n, 26, none⟩ (.string m.f0)).setCell ⟨n, 27, none⟩ (.string m.f1)).setCell ⟨n, 28, none⟩ (.string m.f2)).heap.size = n + 1 from by rw [World.size_setCell, World.size_setCell, World.size_setCell, World.size_setCell]; exact HSz.out)
  generalize ((((X1.setCell ⟨n, 1, none⟩ (.int .i64 pc)).setCell ⟨n, 26, none⟩ (.string m.f0)).setCell ⟨n, 27, none⟩ (.string m.f1)).setCell ⟨n, 28, none⟩ (.string m.f2)) = W1 at HMb HRb HRr HBe HSz ⊢
  clear e5 e6 e7 e8 o1 o26 o27 o28 hfr hHeld
  have d0 : W1.cell? ⟨n, 0, none⟩ = some (.int .i64 c.f0) := blk_cell HRb.out 0
  have e8 : W1.cell? ⟨g, 8, none⟩ = some (.int .i64 pc) := blk_cell HMb.out 8
  have hfr := blk_frozen HRb.out
  go_wp2_with fail
  replace HMb : Aside0 (W1.drew.heap[g]? = some (Obj.cells #[a0, a1, a2, a3, a4, .string m.f0, .string m.f1, .string m.f2, .int .i64 pc, b0, b1, b2, b3, b4, b5, b6, b7, b8, v] 85 (0, 0))) := ⟨HMb.out⟩
  replace HRr : Aside0 (Kd.R k60 60 W1.drew base (fun k => True ∧ k ≠ n) v l) := ⟨by apply Kd.R_drew; exact HRr.out⟩
  replace HBe : Aside0 (Below w.heap.size w W1.drew) := ⟨below_drew1 HBe.out⟩
  replace HSz : Aside0 (W1.drew.heap.size = n + 1) := ⟨HSz.out⟩
  have q18 : W1.drew.cell? ⟨g, 18, none⟩ = some v := blk_cell HMb.out 18
  have qf : Aside0 (W1.drew.frozen? ⟨g, 18, none⟩ = false) := ⟨blk_frozen HMb.out 18⟩
  have rb : W1.drew.heap[n]? = some (Obj.cells (List.toArray ((.int .i64 c.f0) :: (.int .i64 pc) :: (.int .i64 c.f2.f0) :: (.string c.f2.f1.f0) :: (.string c.f2.f1.f1) :: (.string c.f2.f1.f2) :: (.int .i64 c.f2.f2) :: (.string c.f2.f3.f0) :: [.string c.f2.f3.f1, .string c.f2.f4.f0.f0, .string c.f2.f4.f0.f1, .string c.f2.f4.f0.f2, .int .i64 c.f2.f4.f1, .string c.f2.f4.f2, .int .i64 c.f3.f0, .string c.f3.f1.f0, .string c.f3.f1.f1, .string c.f3.f1.f2, .int .i64 c.f3.f2, .string c.f3.f3.f0, .string c.f3.f3.f1, .string c.f3.f4.f0.f0, .string c.f3.f4.f0.f1, .string c.f3.f4.f0.f2, .int .i64 c.f3.f4.f1, .string c.f3.f4.f2, .string m.f0, .string m.f1, .string m.f2, .int .i64 c.f4.f1, .string c.f4.f2, .string c.f5.f0, .string c.f5.f1, .string c.f6, .string c.f7.f0, .string c.f7.f1, .string c.f7.f2, .slice none 0 0])) 60 (0, 0)) := HRb.out
  have HBz : Aside0 (base ≤ W1.drew.heap.size) := ⟨by have := HSz.out; omega⟩
  have HGlt : Aside0 ((⟨g, 18, none⟩ : Addr).block < W1.drew.heap.size) := ⟨by have := HSz.out; show g < W1.drew.heap.size; omega⟩
  have HPne : Aside0 (some n ≠ v.ownBlock) := ⟨fun e => by have := HVlt.out _ e.symm; omega⟩
  refine start_ (n := 11) (S := fun w' => w'.cell? ⟨g, 18, none⟩ = some v ∧ w'.heap[n]? = some (Obj.cells (List.toArray ((.int .i64 c.f0) :: (.int .i64 pc) :: (.int .i64 c.f2.f0) :: (.string c.f2.f1.f0) :: (.string c.f2.f1.f1) :: (.string c.f2.f1.f2) :: (.int .i64 c.f2.f2) :: (.string c.f2.f3.f0) :: [.string c.f2.f3.f1, .string c.f2.f4.f0.f0, .string c.f2.f4.f0.f1, .string c.f2.f4.f0.f2, .int .i64 c.f2.f4.f1, .string c.f2.f4.f2, .int .i64 c.f3.f0, .string c.f3.f1.f0, .string c.f3.f1.f1, .string c.f3.f1.f2, .int .i64 c.f3.f2, .string c.f3.f3.f0, .string c.f3.f3.f1, .string c.f3.f4.f0.f0, .string c.f3.f4.f0.f1, .string c.f3.f4.f0.f2, .int .i64 c.f3.f4.f1, .string c.f3.f4.f2, .string m.f0, .string m.f1, .string m.f2, .int .i64 c.f4.f1, .string c.f4.f2, .string c.f5.f0, .string c.f5.f1, .string c.f6, .string c.f7.f0, .string c.f7.f1, .string c.f7.f2, .slice none 0 0])) 60 (0, 0))) (ds := [10]) #[false, false, false, false, false, false, false, false, false, false, false] (by kernel_rfl) rfl rfl ⟨q18, rb⟩ (fun hHeld => ?_)
  generalize W1.drew = X at HMb HRr HBe HSz HBz HGlt qf q18 rb hHeld ⊢
  refine pure_ (i := 0) (N := some 24) (v := ?_) (a' := ?_) #[true, false, false, false, false, false, false, false, false, false, false] rfl rfl (by kernel_rfl) (fun _ _ _ h => h) (Or.inl ⟨by rfl, ?_⟩) ?_ ?_
  rotate_left
  · intro w'
    go_simp
    with_reducible rfl
  rotate_left
  · simp only [Act.put, List.setIfInBounds_toArray, List.set_cons_zero, List.set_cons_succ, i64_w, i32_w]
    rfl
  refine pure_ (i := 1) (N := some 25) (v := ?_) (a' := ?_) #[true, true, false, false, false, false, false, false, false, false, false] rfl rfl (by kernel_rfl) (fun _ _ _ h => h) (Or.inl ⟨by rfl, ?_⟩) ?_ ?_
  rotate_left
  · intro w'
    go_simp
    with_reducible rfl
  rotate_left
  · simp only [Act.put, List.setIfInBounds_toArray, List.set_cons_zero, List.set_cons_succ, i64_w, i32_w]
    rfl
  refine pure_ (i := 2) (N := some 26) (v := ?_) (a' := ?_) #[true, true, true, false, false, false, false, false, false, false, false] rfl rfl (by kernel_rfl) (fun _ _ _ h => h) (Or.inl ⟨by rfl, ?_⟩) ?_ ?_
  rotate_left
  · intro w'
    go_simp
    with_reducible rfl
  rotate_left
  · simp only [Act.put, List.setIfInBounds_toArray, List.set_cons_zero, List.set_cons_succ, i64_w, i32_w]
    rfl
  refine pure_ (i := 3) (N := some 27) (v := ?_) (a' := ?_) #[true, true, true, true, false, false, false, false, false, false, false] rfl rfl (by kernel_rfl) (fun _ _ _ h => h) (Or.inl ⟨by rfl, ?_⟩) ?_ ?_
  rotate_left
  · intro w'
    go_simp
    with_reducible rfl
  rotate_left
  · simp only [Act.put, List.setIfInBounds_toArray, List.set_cons_zero, List.set_cons_succ, i64_w, i32_w]
    rfl
  refine take_ (i := 4) (N := some 28) (v := ?_) (a' := ?_) #[true, true, true, true, true, false, false, false, false, false, false] rfl rfl (by kernel_rfl) (fun _ _ _ h => h) (Or.inl ⟨by rfl, ?_⟩) hHeld ?_ ?_
  rotate_left
  · rintro w' ⟨s0, s1⟩
    go_simp
    with_reducible rfl
  rotate_left
  · simp only [Act.put, List.setIfInBounds_toArray, List.set_cons_zero, List.set_cons_succ, i64_w, i32_w]
    rfl
  refine take_ (i := 5) (N := some 29) (a' := ?_) #[true, true, true, true, true, true, false, false, false, false, false] rfl rfl (by kernel_rfl) (fun _ _ _ h => h) (yieldsIf_load_mid (by rfl) 60 (.tmp 3) rfl n 0 rfl ((.int .i64 c.f0) :: (.int .i64 pc) :: (.int .i64 c.f2.f0) :: (.string c.f2.f1.f0) :: (.string c.f2.f1.f1) :: (.string c.f2.f1.f2) :: (.int .i64 c.f2.f2) :: (.string c.f2.f3.f0) :: [.string c.f2.f3.f1, .string c.f2.f4.f0.f0, .string c.f2.f4.f0.f1, .string c.f2.f4.f0.f2, .int .i64 c.f2.f4.f1, .string c.f2.f4.f2, .int .i64 c.f3.f0, .string c.f3.f1.f0, .string c.f3.f1.f1, .string c.f3.f1.f2, .int .i64 c.f3.f2, .string c.f3.f3.f0, .string c.f3.f3.f1, .string c.f3.f4.f0.f0, .string c.f3.f4.f0.f1, .string c.f3.f4.f0.f2, .int .i64 c.f3.f4.f1, .string c.f3.f4.f2, .string m.f0, .string m.f1, .string m.f2, .int .i64 c.f4.f1, .string c.f4.f2, .string c.f5.f0, .string c.f5.f1, .string c.f6, .string c.f7.f0, .string c.f7.f1, .string c.f7.f2, .slice none 0 0]) _ (fun w' hw' => rangeAt_blk hw'.2) Try.underlying60 rfl (by kernel_rfl)) hHeld ?_ ?_
  rotate_left
  · simp only [Act.put, List.setIfInBounds_toArray, List.set_cons_zero, List.set_cons_succ, i64_w, i32_w]
    rfl
  refine one_ (i := 6) (N := some 30) #[true, true, true, true, true, true, true, false, false, false, false] rfl rfl (by kernel_rfl) (by decide) (fun K hK => ?_)
  refine value_ (w1 := ?_) (v := ?_) (by rfl) rfl ?_ ?_
  rotate_left 2
  · go_simp
    constructor
    · rfl
    · rfl
  refine hK.out _ _ ⟨(((below_alloc (Below.refl _ _) _).cell (World.block_lt_of_cell? _ _ q18)).trans q18), (blk_alloc rb _)⟩ (fun hHeld => ?_)
  clear hK K
  refine norm_ (a' := ?_) ?_ ?_
  rotate_left
  · show Act.put _ (some 30) _ = _
    simp only [Act.put, List.setIfInBounds_toArray, List.set_cons_zero, List.set_cons_succ, i64_w, i32_w]
    rfl
  refine one_ (i := 7) (N := some 31) #[true, true, true, true, true, true, true, true, false, false, false] rfl rfl (by kernel_rfl) (by decide) (fun K hK => ?_)
  refine Kd.R_append_step k60 (w0 := w) base (by rfl) _ _ 62 60 _ 544 rfl Try.underlying62 cons_info rfl (by decide) (by decide) v l (⟨c.f0, pc, c.f2, c.f3, ⟨m, c.f4.f1, c.f4.f2⟩, c.f5, c.f6, c.f7, c.f8⟩ : S60) ((.int .i64 c.f0) :: (.int .i64 pc) :: (.int .i64 c.f2.f0) :: (.string c.f2.f1.f0) :: (.string c.f2.f1.f1) :: (.string c.f2.f1.f2) :: (.int .i64 c.f2.f2) :: (.string c.f2.f3.f0) :: [.string c.f2.f3.f1, .string c.f2.f4.f0.f0, .string c.f2.f4.f0.f1, .string c.f2.f4.f0.f2, .int .i64 c.f2.f4.f1, .string c.f2.f4.f2, .int .i64 c.f3.f0, .string c.f3.f1.f0, .string c.f3.f1.f1, .string c.f3.f1.f2, .int .i64 c.f3.f2, .string c.f3.f3.f0, .string c.f3.f3.f1, .string c.f3.f4.f0.f0, .string c.f3.f4.f0.f1, .string c.f3.f4.f0.f2, .int .i64 c.f3.f4.f1, .string c.f3.f4.f2, .string m.f0, .string m.f1, .string m.f2, .int .i64 c.f4.f1, .string c.f4.f2, .string c.f5.f0, .string c.f5.f1, .string c.f6, .string c.f7.f0, .string c.f7.f1, .string c.f7.f2, .slice none 0 0]) (fun k => True ∧ k ≠ n) (fun _ => False) rfl (by rfl) (k60_mkM _ _ _ (⟨c.f0, pc, c.f2, c.f3, ⟨m, c.f4.f1, c.f4.f2⟩, c.f5, c.f6, c.f7, c.f8⟩ : S60) (v37 := .slice none 0 0) (HNil.out _ _)) (fun _ hk => hk.elim) (fun k hk => ⟨trivial, by have := HSz.out; omega⟩) HRr.out (HBe.out.mono HBW.out) HBz.out HLn.out ?_
  intro v' w2 hR2 hB2 hg2 hat2
  obtain ⟨Av, nv, cv, hv⟩ : ∃ A n c, v' = Value.slice A n c := by obtain ⟨A, c, e⟩ := Kd.R_slice hR2; exact ⟨A, _, c, e⟩
  subst hv
  have HR2 := Aside0.mk (Kd.R_mono hR2 (fun _ _ => trivial))
  have HB2 := Aside0.mk hB2
  have HG2 := Aside0.mk hg2
  have HT2 := Aside0.mk hat2
  have q18' := hg2.cell q18 HVne.out
  have tf := (hg2.frozen_far ⟨g, 18, none⟩ HGlt.out HVne.out).trans qf.out
  have rb' := blk_grown rb hg2 HPne.out
  clear hR2 hB2 hg2 hat2
  refine hK.out _ _ ⟨q18', rb'⟩ (fun hHeld => ?_)
  clear hK K
  refine norm_ (a' := ?_) ?_ ?_
  rotate_left
  · show Act.put _ (some 31) _ = _
    simp only [Act.put, List.setIfInBounds_toArray, List.set_cons_zero, List.set_cons_succ, i64_w, i32_w]
    rfl
  refine pure_ (i := 8) (N := some 32) (v := ?_) (a' := ?_) #[true, true, true, true, true, true, true, true, true, false, false] rfl rfl (by kernel_rfl) (fun _ _ _ h => h) (Or.inl ⟨by rfl, ?_⟩) ?_ ?_
  rotate_left
  · intro w'
    go_simp
    with_reducible rfl
  rotate_left
  · simp only [Act.put, List.setIfInBounds_toArray, List.set_cons_zero, List.set_cons_succ, i64_w, i32_w]
    rfl
  refine pure_ (i := 9) (N := some 33) (v := ?_) (a' := ?_) #[true, true, true, true, true, true, true, true, true, true, false] rfl rfl (by kernel_rfl) (fun _ _ _ h => h) (Or.inl ⟨by rfl, ?_⟩) ?_ ?_
  rotate_left
  · intro w'
    go_simp
    with_reducible rfl
  rotate_left
  · simp only [Act.put, List.setIfInBounds_toArray, List.set_cons_zero, List.set_cons_succ, i64_w, i32_w]
    rfl
  refine last_ (i := 10) (N := none) #[true, true, true, true, true, true, true, true, true, true, true] rfl rfl (by kernel_rfl) (by decide) (fun K hK => ?_)
  refine skip_ (w1 := ?_) (by rfl) rfl ?_ ?_
  rotate_left
  · go_simp
    rfl
  refine hK.out _ _ ?_
  clear hK K
  refine done_ (by kernel_rfl) ?_
  go_wp2_with fail
  have hfin := MkOwn.put (w := w) (MkOwn.mk HMb.out HB0 (Kd.R_mono HRr.out (fun _ _ => trivial))) HR2.out HG2.out HB2.out
  have hkp : Kp w (w2.setCell ⟨g, 18, none⟩ (.slice Av nv cv)) g v (.slice Av nv cv) := Kp.mk' HBe.out HG2.out HT2.out
  first
    | exact bodyPost_end (v := .tuple #[]) (by simp [results, Try.results61, go_sem]) rfl ⟨rfl, ⟨_, hfin.1, hfin.2, hkp⟩⟩
    | exact bodyPost_end (v := .tuple #[]) (by simp [results, Try.f61, go_sem]) rfl ⟨rfl, ⟨_, hfin.1, hfin.2, hkp⟩⟩
    | exact bodyPost_ret (v := .tuple #[]) (by simp [results, Try.results61, go_sem]) rfl ⟨rfl, ⟨_, hfin.1, hfin.2, hkp⟩⟩
set_option maxHeartbeats 64000000 in
theorem put_has (base g : Nat) (a0 a1 a2 a3 a4 : Value) (m : S25) (pc : Int) (b0 b1 b2 b3 b4 b5 b6 b7 b8 : Value) (v : Value) (l : List S60) (c : S60) (w : World) (hm : MkOwn w base g a0 a1 a2 a3 a4 m pc b0 b1 b2 b3 b4 b5 b6 b7 b8 v l) (hk : c.f0 = 1) (hc : c.f8 = []) (hl : l.length ≤ 1048576) (hbz : base ≤ w.heap.size) :
    Calls Try.prog 61 #[.pointer (some ⟨g, 0, none⟩), .agg (List.toArray ((.int .i64 c.f0) :: (.int .i64 c.f1) :: (.int .i64 c.f2.f0) :: (.string c.f2.f1.f0) :: (.string c.f2.f1.f1) :: (.string c.f2.f1.f2) :: (.int .i64 c.f2.f2) :: (.string c.f2.f3.f0) :: [.string c.f2.f3.f1, .string c.f2.f4.f0.f0, .string c.f2.f4.f0.f1, .string c.f2.f4.f0.f2, .int .i64 c.f2.f4.f1, .string c.f2.f4.f2, .int .i64 c.f3.f0, .string c.f3.f1.f0, .string c.f3.f1.f1, .string c.f3.f1.f2, .int .i64 c.f3.f2, .string c.f3.f3.f0, .string c.f3.f3.f1, .string c.f3.f4.f0.f0, .string c.f3.f4.f0.f1, .string c.f3.f4.f0.f2, .int .i64 c.f3.f4.f1, .string c.f3.f4.f2, .string c.f4.f0.f0, .string c.f4.f0.f1, .string c.f4.f0.f2, .int .i64 c.f4.f1, .string c.f4.f2, .string c.f5.f0, .string c.f5.f1, .string c.f6, .string c.f7.f0, .string c.f7.f1, .string c.f7.f2, .slice none 0 0]))] w fun e w' => ∃ v', e = .returned (.tuple #[]) ∧ MkOwn w' base g a0 a1 a2 a3 a4 m pc b0 b1 b2 b3 b4 b5 b6 b7 b8 v' (l ++ [(⟨c.f0, pc, c.f2, c.f3, ⟨m, pc, c.f4.f2⟩, c.f5, c.f6, c.f7, c.f8⟩ : S60)]) ∧ Below base w w' ∧ Kp w w' g v v' := by
  obtain ⟨n, hn⟩ : ∃ n, n = w.heap.size := ⟨_, rfl⟩
  have hlt := blk_lt hm.b
  have hne : g ≠ n := by omega
  have hgn : g < n := by omega
  have hbn : base ≤ n := by omega
  have hab := below_alloc (Below.refl w.heap.size w) (Obj.cells (List.toArray ((.int .i64 c.f0) :: (.int .i64 c.f1) :: (.int .i64 c.f2.f0) :: (.string c.f2.f1.f0) :: (.string c.f2.f1.f1) :: (.string c.f2.f1.f2) :: (.int .i64 c.f2.f2) :: (.string c.f2.f3.f0) :: [.string c.f2.f3.f1, .string c.f2.f4.f0.f0, .string c.f2.f4.f0.f1, .string c.f2.f4.f0.f2, .int .i64 c.f2.f4.f1, .string c.f2.f4.f2, .int .i64 c.f3.f0, .string c.f3.f1.f0, .string c.f3.f1.f1, .string c.f3.f1.f2, .int .i64 c.f3.f2, .string c.f3.f3.f0, .string c.f3.f3.f1, .string c.f3.f4.f0.f0, .string c.f3.f4.f0.f1, .string c.f3.f4.f0.f2, .int .i64 c.f3.f4.f1, .string c.f3.f4.f2, .string c.f4.f0.f0, .string c.f4.f0.f1, .string c.f4.f0.f2, .int .i64 c.f4.f1, .string c.f4.f2, .string c.f5.f0, .string c.f5.f1, .string c.f6, .string c.f7.f0, .string c.f7.f1, .string c.f7.f2, .slice none 0 0])) 60)
  have HB0 := hm.hb
  have HMb := Aside0.mk ((hm.below hab hbz).b)
  have HRb : Aside0 ((w.alloc (Obj.cells (List.toArray ((.int .i64 c.f0) :: (.int .i64 c.f1) :: (.int .i64 c.f2.f0) :: (.string c.f2.f1.f0) :: (.string c.f2.f1.f1) :: (.string c.f2.f1.f2) :: (.int .i64 c.f2.f2) :: (.string c.f2.f3.f0) :: [.string c.f2.f3.f1, .string c.f2.f4.f0.f0, .string c.f2.f4.f0.f1, .string c.f2.f4.f0.f2, .int .i64 c.f2.f4.f1, .string c.f2.f4.f2, .int .i64 c.f3.f0, .string c.f3.f1.f0, .string c.f3.f1.f1, .string c.f3.f1.f2, .int .i64 c.f3.f2, .string c.f3.f3.f0, .string c.f3.f3.f1, .string c.f3.f4.f0.f0, .string c.f3.f4.f0.f1, .string c.f3.f4.f0.f2, .int .i64 c.f3.f4.f1, .string c.f3.f4.f2, .string c.f4.f0.f0, .string c.f4.f0.f1, .string c.f4.f0.f2, .int .i64 c.f4.f1, .string c.f4.f2, .string c.f5.f0, .string c.f5.f1, .string c.f6, .string c.f7.f0, .string c.f7.f1, .string c.f7.f2, .slice none 0 0])) 60)).heap[n]? = some (Obj.cells (List.toArray ((.int .i64 c.f0) :: (.int .i64 c.f1) :: (.int .i64 c.f2.f0) :: (.string c.f2.f1.f0) :: (.string c.f2.f1.f1) :: (.string c.f2.f1.f2) :: (.int .i64 c.f2.f2) :: (.string c.f2.f3.f0) :: [.string c.f2.f3.f1, .string c.f2.f4.f0.f0, .string c.f2.f4.f0.f1, .string c.f2.f4.f0.f2, .int .i64 c.f2.f4.f1, .string c.f2.f4.f2, .int .i64 c.f3.f0, .string c.f3.f1.f0, .string c.f3.f1.f1, .string c.f3.f1.f2, .int .i64 c.f3.f2, .string c.f3.f3.f0, .string c.f3.f3.f1, .string c.f3.f4.f0.f0, .string c.f3.f4.f0.f1, .string c.f3.f4.f0.f2, .int .i64 c.f3.f4.f1, .string c.f3.f4.f2, .string c.f4.f0.f0, .string c.f4.f0.f1, .string c.f4.f0.f2, .int .i64 c.f4.f1, .string c.f4.f2, .string c.f5.f0, .string c.f5.f1, .string c.f6, .string c.f7.f0, .string c.f7.f1, .string c.f7.f2, .slice none 0 0])) 60 (0, 0))) := ⟨by rw [hn]; exact World.alloc_heap_new w _⟩
  have HRr : Aside0 (Kd.R k60 60 (w.alloc (Obj.cells (List.toArray ((.int .i64 c.f0) :: (.int .i64 c.f1) :: (.int .i64 c.f2.f0) :: (.string c.f2.f1.f0) :: (.string c.f2.f1.f1) :: (.string c.f2.f1.f2) :: (.int .i64 c.f2.f2) :: (.string c.f2.f3.f0) :: [.string c.f2.f3.f1, .string c.f2.f4.f0.f0, .string c.f2.f4.f0.f1, .string c.f2.f4.f0.f2, .int .i64 c.f2.f4.f1, .string c.f2.f4.f2, .int .i64 c.f3.f0, .string c.f3.f1.f0, .string c.f3.f1.f1, .string c.f3.f1.f2, .int .i64 c.f3.f2, .string c.f3.f3.f0, .string c.f3.f3.f1, .string c.f3.f4.f0.f0, .string c.f3.f4.f0.f1, .string c.f3.f4.f0.f2, .int .i64 c.f3.f4.f1, .string c.f3.f4.f2, .string c.f4.f0.f0, .string c.f4.f0.f1, .string c.f4.f0.f2, .int .i64 c.f4.f1, .string c.f4.f2, .string c.f5.f0, .string c.f5.f1, .string c.f6, .string c.f7.f0, .string c.f7.f1, .string c.f7.f2, .slice none 0 0])) 60)) base (fun k => True ∧ k ≠ n) v l) := ⟨by rw [hn]; exact Kd.R_below (Kd.R_elderB hm.r w.heap.size (Nat.le_refl _)) hab⟩
  have HBe := Aside0.mk hab
  have hnn : w.heap.size ≤ n := by omega
  have HBW := Aside0.mk hbz
  have HSz : Aside0 ((w.alloc (Obj.cells (List.toArray ((.int .i64 c.f0) :: (.int .i64 c.f1) :: (.int .i64 c.f2.f0) :: (.string c.f2.f1.f0) :: (.string c.f2.f1.f1) :: (.string c.f2.f1.f2) :: (.int .i64 c.f2.f2) :: (.string c.f2.f3.f0) :: [.string c.f2.f3.f1, .string c.f2.f4.f0.f0, .string c.f2.f4.f0.f1, .string c.f2.f4.f0.f2, .int .i64 c.f2.f4.f1, .string c.f2.f4.f2, .int .i64 c.f3.f0, .string c.f3.f1.f0, .string c.f3.f1.f1, .string c.f3.f1.f2, .int .i64 c.f3.f2, .string c.f3.f3.f0, .string c.f3.f3.f1, .string c.f3.f4.f0.f0, .string c.f3.f4.f0.f1, .string c.f3.f4.f0.f2, .int .i64 c.f3.f4.f1, .string c.f3.f4.f2, .string c.f4.f0.f0, .string c.f4.f0.f1, .string c.f4.f0.f2, .int .i64 c.f4.f1, .string c.f4.f2, .string c.f5.f0, .string c.f5.f1, .string c.f6, .string c.f7.f0, .string c.f7.f1, .string c.f7.f2, .slice none 0 0])) 60)).heap.size = n + 1) := ⟨by rw [hn]; exact World.size_alloc w _⟩
  have HNil : Aside0 (∀ (W : World) (ok : Nat → Prop), (Kd.int .i64).R 3 W base ok (.slice none 0 0) ((⟨c.f0, pc, c.f2, c.f3, ⟨m, pc, c.f4.f2⟩, c.f5, c.f6, c.f7, c.f8⟩ : S60) : S60).f8) := ⟨fun W ok => by show (Kd.int .i64).R 3 W base ok (.slice none 0 0) c.f8; rw [hc]; exact Kd.R_nil _ _ _ _ _⟩
  have HLn : Aside0 ((l.length + 1) * 544 ≤ 140737488355328) := ⟨by omega⟩
  have HVlt : Aside0 (∀ k, v.ownBlock = some k → k < n) := ⟨fun k hk => by rw [hn]; exact Kd.R_lt hm.r k hk⟩
  have HVne : Aside0 (some g ≠ v.ownBlock) := ⟨Kd.R_ne hm.r hm.b (by decide)⟩
  have hkb : (c.f0 == 1) = true := beq_iff_eq.2 hk
  clear hm hab hk hc
  go_enter Try.func61, Try.ntmps61
  go_wp2_with fail
  rw [← hn]
  clear hn
  generalize w.alloc (Obj.cells (List.toArray ((.int .i64 c.f0) :: (.int .i64 c.f1) :: (.int .i64 c.f2.f0) :: (.string c.f2.f1.f0) :: (.string c.f2.f1.f1) :: (.string c.f2.f1.f2) :: (.int .i64 c.f2.f2) :: (.string c.f2.f3.f0) :: [.string c.f2.f3.f1, .string c.f2.f4.f0.f0, .string c.f2.f4.f0.f1, .string c.f2.f4.f0.f2, .int .i64 c.f2.f4.f1, .string c.f2.f4.f2, .int .i64 c.f3.f0, .string c.f3.f1.f0, .string c.f3.f1.f1, .string c.f3.f1.f2, .int .i64 c.f3.f2, .string c.f3.f3.f0, .string c.f3.f3.f1, .string c.f3.f4.f0.f0, .string c.f3.f4.f0.f1, .string c.f3.f4.f0.f2, .int .i64 c.f3.f4.f1, .string c.f3.f4.f2, .string c.f4.f0.f0, .string c.f4.f0.f1, .string c.f4.f0.f2, .int .i64 c.f4.f1, .string c.f4.f2, .string c.f5.f0, .string c.f5.f1, .string c.f6, .string c.f7.f0, .string c.f7.f1, .string c.f7.f2, .slice none 0 0])) 60) = X0 at HMb HRb HRr HBe HSz ⊢
  generalize Value.agg (List.toArray ((.int .i64 c.f0) :: (.int .i64 c.f1) :: (.int .i64 c.f2.f0) :: (.string c.f2.f1.f0) :: (.string c.f2.f1.f1) :: (.string c.f2.f1.f2) :: (.int .i64 c.f2.f2) :: (.string c.f2.f3.f0) :: [.string c.f2.f3.f1, .string c.f2.f4.f0.f0, .string c.f2.f4.f0.f1, .string c.f2.f4.f0.f2, .int .i64 c.f2.f4.f1, .string c.f2.f4.f2, .int .i64 c.f3.f0, .string c.f3.f1.f0, .string c.f3.f1.f1, .string c.f3.f1.f2, .int .i64 c.f3.f2, .string c.f3.f3.f0, .string c.f3.f3.f1, .string c.f3.f4.f0.f0, .string c.f3.f4.f0.f1, .string c.f3.f4.f0.f2, .int .i64 c.f3.f4.f1, .string c.f3.f4.f2, .string c.f4.f0.f0, .string c.f4.f0.f1, .string c.f4.f0.f2, .int .i64 c.f4.f1, .string c.f4.f2, .string c.f5.f0, .string c.f5.f1, .string c.f6, .string c.f7.f0, .string c.f7.f1, .string c.f7.f2, .slice none 0 0])) = cv
  replace HMb : Aside0 (X0.drew.heap[g]? = some (Obj.cells #[a0, a1, a2, a3, a4, .string m.f0, .string m.f1, .string m.f2, .int .i64 pc, b0, b1, b2, b3, b4, b5, b6, b7, b8, v] 85 (0, 0))) := ⟨HMb.out⟩
  replace HRb : Aside0 (X0.drew.heap[n]? = some (Obj.cells (List.toArray ((.int .i64 c.f0) :: (.int .i64 c.f1) :: (.int .i64 c.f2.f0) :: (.string c.f2.f1.f0) :: (.string c.f2.f1.f1) :: (.string c.f2.f1.f2) :: (.int .i64 c.f2.f2) :: (.string c.f2.f3.f0) :: [.string c.f2.f3.f1, .string c.f2.f4.f0.f0, .string c.f2.f4.f0.f1, .string c.f2.f4.f0.f2, .int .i64 c.f2.f4.f1, .string c.f2.f4.f2, .int .i64 c.f3.f0, .string c.f3.f1.f0, .string c.f3.f1.f1, .string c.f3.f1.f2, .int .i64 c.f3.f2, .string c.f3.f3.f0, .string c.f3.f3.f1, .string c.f3.f4.f0.f0, .string c.f3.f4.f0.f1, .string c.f3.f4.f0.f2, .int .i64 c.f3.f4.f1, .string c.f3.f4.f2, .string c.f4.f0.f0, .string c.f4.f0.f1, .string c.f4.f0.f2, .int .i64 c.f4.f1, .string c.f4.f2, .string c.f5.f0, .string c.f5.f1, .string c.f6, .string c.f7.f0, .string c.f7.f1, .string c.f7.f2, .slice none 0 0])) 60 (0, 0))) := ⟨HRb.out⟩
  replace HRr : Aside0 (Kd.R k60 60 X0.drew base (fun k => True ∧ k ≠ n) v l) := ⟨by apply Kd.R_drew; exact HRr.out⟩
  replace HBe : Aside0 (Below w.heap.size w X0.drew) := ⟨below_drew1 HBe.out⟩
  replace HSz : Aside0 (X0.drew.heap.size = n + 1) := ⟨HSz.out⟩
  obtain ⟨e5, e6, e7, e8⟩ : X0.drew.cell? ⟨g, 5, none⟩ = some (.string m.f0) ∧ X0.drew.cell? ⟨g, 6, none⟩ = some (.string m.f1) ∧ X0.drew.cell? ⟨g, 7, none⟩ = some (.string m.f2) ∧ X0.drew.cell? ⟨g, 8, none⟩ = some (.int .i64 pc) := ⟨blk_cell HMb.out 5, blk_cell HMb.out 6, blk_cell HMb.out 7, blk_cell HMb.out 8⟩
  obtain ⟨o1, o26, o27, o28⟩ : X0.drew.cell? ⟨n, 1, none⟩ = some (.int .i64 c.f1) ∧ X0.drew.cell? ⟨n, 26, none⟩ = some (.string c.f4.f0.f0) ∧ X0.drew.cell? ⟨n, 27, none⟩ = some (.string c.f4.f0.f1) ∧ X0.drew.cell? ⟨n, 28, none⟩ = some (.string c.f4.f0.f2) := ⟨blk_cell HRb.out 1, blk_cell HRb.out 26, blk_cell HRb.out 27, blk_cell HRb.out 28⟩
  have hfr := blk_frozen HRb.out
  refine start_ (n := 13) (S := fun w' => w'.cell? ⟨g, 5, none⟩ = some (.string m.f0) ∧ w'.cell? ⟨g, 6, none⟩ = some (.string m.f1) ∧ w'.cell? ⟨g, 7, none⟩ = some (.string m.f2) ∧ w'.cell? ⟨g, 8, none⟩ = some (.int .i64 pc)) (ds := [12]) #[false, false, false, false, false, false, false, false, false, false, false, false, false] (by kernel_rfl) rfl rfl ⟨e5, e6, e7, e8⟩ (fun hHeld => ?_)
  generalize X0.drew = X1 at HMb HRb HRr HBe HSz e5 e6 e7 e8 o1 o26 o27 o28 hfr hHeld ⊢
  refine pure_ (i := 0) (N := some 4) (v := ?_) (a' := ?_) #[true, false, false, false, false, false, false, false, false, false, false, false, false] rfl rfl (by kernel_rfl) (fun _ _ _ h => h) (Or.inl ⟨by rfl, ?_⟩) ?_ ?_
  rotate_left
  · intro w'
    go_simp
    with_reducible rfl
  rotate_left
  · simp only [Act.put, List.setIfInBounds_toArray, List.set_cons_zero, List.set_cons_succ, i64_w, i32_w]
    rfl
  refine pure_ (i := 1) (N := some 5) (v := ?_) (a' := ?_) #[true, true, false, false, false, false, false, false, false, false, false, false, false] rfl rfl (by kernel_rfl) (fun _ _ _ h => h) (Or.inl ⟨by rfl, ?_⟩) ?_ ?_
  rotate_left
  · intro w'
    go_simp
    with_reducible rfl
  rotate_left
  · simp only [Act.put, List.setIfInBounds_toArray, List.set_cons_zero, List.set_cons_succ, i64_w, i32_w]
    rfl
  refine pure_ (i := 2) (N := some 6) (v := ?_) (a' := ?_) #[true, true, true, false, false, false, false, false, false, false, false, false, false] rfl rfl (by kernel_rfl) (fun _ _ _ h => h) (Or.inl ⟨by rfl, ?_⟩) ?_ ?_
  rotate_left
  · intro w'
    go_simp
    with_reducible rfl
  rotate_left
  · simp only [Act.put, List.setIfInBounds_toArray, List.set_cons_zero, List.set_cons_succ, i64_w, i32_w]
    rfl
  refine pure_ (i := 4) (N := some 8) (v := ?_) (a' := ?_) #[true, true, true, false, true, false, false, false, false, false, false, false, false] rfl rfl (by kernel_rfl) (fun _ _ _ h => h) (Or.inl ⟨by rfl, ?_⟩) ?_ ?_
  rotate_left
  · intro w'
    go_simp
    with_reducible rfl
  rotate_left
  · simp only [Act.put, List.setIfInBounds_toArray, List.set_cons_zero, List.set_cons_succ, i64_w, i32_w]
    rfl
  refine pure_ (i := 5) (N := some 9) (v := ?_) (a' := ?_) #[true, true, true, false, true, true, false, false, false, false, false, false, false] rfl rfl (by kernel_rfl) (fun _ _ _ h => h) (Or.inl ⟨by rfl, ?_⟩) ?_ ?_
  rotate_left
  · intro w'
    go_simp
    with_reducible rfl
  rotate_left
  · simp only [Act.put, List.setIfInBounds_toArray, List.set_cons_zero, List.set_cons_succ, i64_w, i32_w]
    rfl
  refine pure_ (i := 6) (N := some 10) (v := ?_) (a' := ?_) #[true, true, true, false, true, true, true, false, false, false, false, false, false] rfl rfl (by kernel_rfl) (fun _ _ _ h => h) (Or.inl ⟨by rfl, ?_⟩) ?_ ?_
  rotate_left
  · intro w'
    go_simp
    with_reducible rfl
  rotate_left
  · simp only [Act.put, List.setIfInBounds_toArray, List.set_cons_zero, List.set_cons_succ, i64_w, i32_w]
    rfl
  refine take_ (i := 3) (N := some 7) (v := ?_) (a' := ?_) #[true, true, true, true, true, true, true, false, false, false, false, false, false] rfl rfl (by kernel_rfl) (fun _ _ _ h => h) (Or.inl ⟨by rfl, ?_⟩) hHeld ?_ ?_
  rotate_left
  · rintro w' ⟨s0, s1, s2, s3⟩
    go_simp
    with_reducible rfl
  rotate_left
  · simp only [Act.put, List.setIfInBounds_toArray, List.set_cons_zero, List.set_cons_succ, i64_w, i32_w]
    rfl
  refine pure_ (i := 8) (N := some 12) (v := ?_) (a' := ?_) #[true, true, true, true, true, true, true, false, true, false, false, false, false] rfl rfl (by kernel_rfl) (fun _ _ _ h => h) (Or.inl ⟨by rfl, ?_⟩) ?_ ?_
  rotate_left
  · intro w'
    go_simp
    with_reducible rfl
  rotate_left
  · simp only [Act.put, List.setIfInBounds_toArray, List.set_cons_zero, List.set_cons_succ, i64_w, i32_w]
    rfl
  refine take_ (i := 7) (N := some 11) (v := ?_) (a' := ?_) #[true, true, true, true, true, true, true, true, true, false, false, false, false] rfl rfl (by kernel_rfl) (fun _ _ _ h => h) (Or.inl ⟨by rfl, ?_⟩) hHeld ?_ ?_
  rotate_left
  · rintro w' ⟨s0, s1, s2, s3⟩
    go_simp
    with_reducible rfl
  rotate_left
  · simp only [Act.put, List.setIfInBounds_toArray, List.set_cons_zero, List.set_cons_succ, i64_w, i32_w]
    rfl
  refine one_ (i := 9) (N := none) #[true, true, true, true, true, true, true, true, true, true, false, false, false] rfl rfl (by kernel_rfl) (by decide) (fun K hK => ?_)
  refine skip_ (w1 := ?_) (by rfl) rfl ?_ ?_
  rotate_left
  · go_simp
    rfl
  refine hK.out _ _ ⟨((cell_far (p := ⟨n, 1, none⟩) (a := ⟨g, 5, none⟩) hne _).trans e5), ((cell_far (p := ⟨n, 1, none⟩) (a := ⟨g, 6, none⟩) hne _).trans e6), ((cell_far (p := ⟨n, 1, none⟩) (a := ⟨g, 7, none⟩) hne _).trans e7), ((cell_far (p := ⟨n, 1, none⟩) (a := ⟨g, 8, none⟩) hne _).trans e8)⟩ (fun hHeld => ?_)
  clear hK K
  refine pure_ (i := 10) (N := some 13) (v := ?_) (a' := ?_) #[true, true, true, true, true, true, true, true, true, true, true, false, false] rfl rfl (by kernel_rfl) (fun _ _ _ h => h) (Or.inl ⟨by rfl, ?_⟩) ?_ ?_
  rotate_left
  · intro w'
    go_simp
    with_reducible rfl
  rotate_left
  · simp only [Act.put, List.setIfInBounds_toArray, List.set_cons_zero, List.set_cons_succ, i64_w, i32_w]
    rfl
  refine pure_ (i := 11) (N := some 14) (v := ?_) (a' := ?_) #[true, true, true, true, true, true, true, true, true, true, true, true, false] rfl rfl (by kernel_rfl) (fun _ _ _ h => h) (Or.inl ⟨by rfl, ?_⟩) ?_ ?_
  rotate_left
  · intro w'
    go_simp
    with_reducible rfl
  rotate_left
  · simp only [Act.put, List.setIfInBounds_toArray, List.set_cons_zero, List.set_cons_succ, i64_w, i32_w]
    rfl
  refine last_ (i := 12) (N := none) #[true, true, true, true, true, true, true, true, true, true, true, true, true] rfl rfl (by kernel_rfl) (by decide) (fun K hK => ?_)
  refine skip_ (w1 := ?_) (by rfl) rfl ?_ ?_
  rotate_left
  · go_simp
    rfl
  refine hK.out _ _ ?_
  clear hK K
  refine done_ (by kernel_rfl) ?_
  have HMb := Aside0.mk (show ((((X1.setCell ⟨n, 1, none⟩ (.int .i64 pc)).setCell ⟨n, 26, none⟩ (.string m.f0)).setCell ⟨n, 27, none⟩ (.string m.f1)).setCell ⟨n, 28, none⟩ (.string m.f2)).heap[g]? = some (Obj.cells #[a0, a1, a2, a3, a4, .string m.f0, .string m.f1, .string m.f2, .int .i64 pc, b0, b1, b2, b3, b4, b5, b6, b7, b8, v] 85 (0, 0)) from by rw [Below.heap_setCell _ _ _ _ hne, Below.heap_setCell _ _ _ _ hne, Below.heap_setCell _ _ _ _ hne, Below.heap_setCell _ _ _ _ hne]; exact HMb.out)
  have HRb := Aside0.mk (show ((((X1.setCell ⟨n, 1, none⟩ (.int .i64 pc)).setCell ⟨n, 26, none⟩ (.string m.f0)).setCell ⟨n, 27, none⟩ (.string m.f1)).setCell ⟨n, 28, none⟩ (.string m.f2)).heap[n]? = some (Obj.cells (List.toArray ((.int .i64 c.f0) :: (.int .i64 pc) :: (.int .i64 c.f2.f0) :: (.string c.f2.f1.f0) :: (.string c.f2.f1.f1) :: (.string c.f2.f1.f2) :: (.int .i64 c.f2.f2) :: (.string c.f2.f3.f0) :: [.string c.f2.f3.f1, .string c.f2.f4.f0.f0, .string c.f2.f4.f0.f1, .string c.f2.f4.f0.f2, .int .i64 c.f2.f4.f1, .string c.f2.f4.f2, .int .i64 c.f3.f0, .string c.f3.f1.f0, .string c.f3.f1.f1, .string c.f3.f1.f2, .int .i64 c.f3.f2, .string c.f3.f3.f0, .string c.f3.f3.f1, .string c.f3.f4.f0.f0, .string c.f3.f4.f0.f1, .string c.f3.f4.f0.f2, .int .i64 c.f3.f4.f1, .string c.f3.f4.f2, .string m.f0, .string m.f1, .string m.f2, .int .i64 c.f4.f1, .string c.f4.f2, .string c.f5.f0, .string c.f5.f1, .string c.f6, .string c.f7.f0, .string c.f7.f1, .string c.f7.f2, .slice none 0 0])) 60 (0, 0)) from (blk_put (cs := (List.toArray ((.int .i64 c.f0) :: (.int .i64 pc) :: (.int .i64 c.f2.f0) :: (.string c.f2.f1.f0) :: (.string c.f2.f1.f1) :: (.string c.f2.f1.f2) :: (.int .i64 c.f2.f2) :: (.string c.f2.f3.f0) :: [.string c.f2.f3.f1, .string c.f2.f4.f0.f0, .string c.f2.f4.f0.f1, .string c.f2.f4.f0.f2, .int .i64 c.f2.f4.f1, .string c.f2.f4.f2, .int .i64 c.f3.f0, .string c.f3.f1.f0, .string c.f3.f1.f1, .string c.f3.f1.f2, .int .i64 c.f3.f2, .string c.f3.f3.f0, .string c.f3.f3.f1, .string c.f3.f4.f0.f0, .string c.f3.f4.f0.f1, .string c.f3.f4.f0.f2, .int .i64 c.f3.f4.f1, .string c.f3.f4.f2, .string m.f0, .string m.f1, .string c.f4.f0.f2, .int .i64 c.f4.f1, .string c.f4.f2, .string c.f5.f0, .string c.f5.f1, .string c.f6, .string c.f7.f0, .string c.f7.f1, .string c.f7.f2, .slice none 0 0]))) (blk_put (cs := (List.toArray ((.int .i64 c.f0) :: (.int .i64 pc) :: (.int .i64 c.f2.f0) :: (.string c.f2.f1.f0) :: (.string c.f2.f1.f1) :: (.string c.f2.f1.f2) :: (.int .i64 c.f2.f2) :: (.string c.f2.f3.f0) :: [.string c.f2.f3.f1, .string c.f2.f4.f0.f0, .string c.f2.f4.f0.f1, .string c.f2.f4.f0.f2, .int .i64 c.f2.f4.f1, .string c.f2.f4.f2, .int .i64 c.f3.f0, .string c.f3.f1.f0, .string c.f3.f1.f1, .string c.f3.f1.f2, .int .i64 c.f3.f2, .string c.f3.f3.f0, .string c.f3.f3.f1, .string c.f3.f4.f0.f0, .string c.f3.f4.f0.f1, .string c.f3.f4.f0.f2, .int .i64 c.f3.f4.f1, .string c.f3.f4.f2, .string m.f0, .string c.f4.f0.f1, .string c.f4.f0.f2, .int .i64 c.f4.f1, .string c.f4.f2, .string c.f5.f0, .string c.f5.f1, .string c.f6, .string c.f7.f0, .string c.f7.f1, .string c.f7.f2, .slice none 0 0]))) (blk_put (cs := (List.toArray ((.int .i64 c.f0) :: (.int .i64 pc) :: (.int .i64 c.f2.f0) :: (.string c.f2.f1.f0) :: (.string c.f2.f1.f1) :: (.string c.f2.f1.f2) :: (.int .i64 c.f2.f2) :: (.string c.f2.f3.f0) :: [.string c.f2.f3.f1, .string c.f2.f4.f0.f0, .string c.f2.f4.f0.f1, .string c.f2.f4.f0.f2, .int .i64 c.f2.f4.f1, .string c.f2.f4.f2, .int .i64 c.f3.f0, .string c.f3.f1.f0, .string c.f3.f1.f1, .string c.f3.f1.f2, .int .i64 c.f3.f2, .string c.f3.f3.f0, .string c.f3.f3.f1, .string c.f3.f4.f0.f0, .string c.f3.f4.f0.f1, .string c.f3.f4.f0.f2, .int .i64 c.f3.f4.f1, .string c.f3.f4.f2, .string c.f4.f0.f0, .string c.f4.f0.f1, .string c.f4.f0.f2, .int .i64 c.f4.f1, .string c.f4.f2, .string c.f5.f0, .string c.f5.f1, .string c.f6, .string c.f7.f0, .string c.f7.f1, .string c.f7.f2, .slice none 0 0]))) (blk_put (cs := (List.toArray ((.int .i64 c.f0) :: (.int .i64 c.f1) :: (.int .i64 c.f2.f0) :: (.string c.f2.f1.f0) :: (.string c.f2.f1.f1) :: (.string c.f2.f1.f2) :: (.int .i64 c.f2.f2) :: (.string c.f2.f3.f0) :: [.string c.f2.f3.f1, .string c.f2.f4.f0.f0, .string c.f2.f4.f0.f1, .string c.f2.f4.f0.f2, .int .i64 c.f2.f4.f1, .string c.f2.f4.f2, .int .i64 c.f3.f0, .string c.f3.f1.f0, .string c.f3.f1.f1, .string c.f3.f1.f2, .int .i64 c.f3.f2, .string c.f3.f3.f0, .string c.f3.f3.f1, .string c.f3.f4.f0.f0, .string c.f3.f4.f0.f1, .string c.f3.f4.f0.f2, .int .i64 c.f3.f4.f1, .string c.f3.f4.f2, .string c.f4.f0.f0, .string c.f4.f0.f1, .string c.f4.f0.f2, .int .i64 c.f4.f1, .string c.f4.f2, .string c.f5.f0, .string c.f5.f1, .string c.f6, .string c.f7.f0, .string c.f7.f1, .string c.f7.f2, .slice none 0 0]))) HRb.out 1 (.int .i64 pc) rfl) 26 (.string m.f0) rfl) 27 (.string m.f1) rfl) 28 (.string m.f2) rfl))
  have HRr := Aside0.mk (show Kd.R k60 60 ((((X1.setCell ⟨n, 1, none⟩ (.int .i64 pc)).setCell ⟨n, 26, none⟩ (.string m.f0)).setCell ⟨n, 27, none⟩ (.string m.f1)).setCell ⟨n, 28, none⟩ (.string m.f2)) base (fun k => True ∧ k ≠ n) v l from (Kd.R_far (p := ⟨n, 28, none⟩) (Kd.R_far (p := ⟨n, 27, none⟩) (Kd.R_far (p := ⟨n, 26, none⟩) (Kd.R_far (p := ⟨n, 1, none⟩) HRr.out (fun _ hk => hk.2) (.int .i64 pc)) (fun _ hk => hk.2) (.string m.f0)) (fun _ hk => hk.2) (.string m.f1)) (fun _ hk => hk.2) (.string m.f2)))
  have HBe := Aside0.mk (show Below w.heap.size w ((((X1.setCell ⟨n, 1, none⟩ (.int .i64 pc)).setCell ⟨n, 26, none⟩ (.string m.f0)).setCell ⟨n, 27, none⟩ (.string m.f1)).setCell ⟨n, 28, none⟩ (.string m.f2)) from ((((HBe.out.setCell hnn (.int .i64 pc)).setCell hnn (.string m.f0)).setCell hnn (.string m.f1)).setCell hnn (.string m.f2)))
  have HSz := Aside0.mk (show ((((X1.setCell ⟨n, 1, none⟩ (.int .i64 pc)).setCell ⟨n, 26, none⟩ (.string m.f0)).setCell ⟨n, 27, none⟩ (.string m.f1)).setCell ⟨n, 28, none⟩ (.string m.f2)).heap.size = n + 1 from by rw [World.size_setCell, World.size_setCell, World.size_setCell, World.size_setCell]; exact HSz.out)
  generalize ((((X1.setCell ⟨n, 1, none⟩ (.int .i64 pc)).setCell ⟨n, 26, none⟩ (.string m.f0)).setCell ⟨n, 27, none⟩ (.string m.f1)).setCell ⟨n, 28, none⟩ (.string m.f2)) = W1 at HMb HRb HRr HBe HSz ⊢
  clear e5 e6 e7 e8 o1 o26 o27 o28 hfr hHeld
  have d0 : W1.cell? ⟨n, 0, none⟩ = some (.int .i64 c.f0) := blk_cell HRb.out 0
  have e8 : W1.cell? ⟨g, 8, none⟩ = some (.int .i64 pc) := blk_cell HMb.out 8
  have hfr := blk_frozen HRb.out
  have o29 : W1.cell? ⟨n, 29, none⟩ = some (.int .i64 c.f4.f1) := blk_cell HRb.out 29
  go_wp2_with fail
  have HMb := Aside0.mk (show (W1.setCell ⟨n, 29, none⟩ (.int .i64 pc)).heap[g]? = some (Obj.cells #[a0, a1, a2, a3, a4, .string m.f0, .string m.f1, .string m.f2, .int .i64 pc, b0, b1, b2, b3, b4, b5, b6, b7, b8, v] 85 (0, 0)) from by rw [Below.heap_setCell _ _ _ _ hne]; exact HMb.out)
  have HRb := Aside0.mk (show (W1.setCell ⟨n, 29, none⟩ (.int .i64 pc)).heap[n]? = some (Obj.cells (List.toArray ((.int .i64 c.f0) :: (.int .i64 pc) :: (.int .i64 c.f2.f0) :: (.string c.f2.f1.f0) :: (.string c.f2.f1.f1) :: (.string c.f2.f1.f2) :: (.int .i64 c.f2.f2) :: (.string c.f2.f3.f0) :: [.string c.f2.f3.f1, .string c.f2.f4.f0.f0, .string c.f2.f4.f0.f1, .string c.f2.f4.f0.f2, .int .i64 c.f2.f4.f1, .string c.f2.f4.f2, .int .i64 c.f3.f0, .string c.f3.f1.f0, .string c.f3.f1.f1, .string c.f3.f1.f2, .int .i64 c.f3.f2, .string c.f3.f3.f0, .string c.f3.f3.f1, .string c.f3.f4.f0.f0, .string c.f3.f4.f0.f1, .string c.f3.f4.f0.f2, .int .i64 c.f3.f4.f1, .string c.f3.f4.f2, .string m.f0, .string m.f1, .string m.f2, .int .i64 pc, .string c.f4.f2, .string c.f5.f0, .string c.f5.f1, .string c.f6, .string c.f7.f0, .string c.f7.f1, .string c.f7.f2, .slice none 0 0])) 60 (0, 0)) from (blk_put (cs := (List.toArray ((.int .i64 c.f0) :: (.int .i64 pc) :: (.int .i64 c.f2.f0) :: (.string c.f2.f1.f0) :: (.string c.f2.f1.f1) :: (.string c.f2.f1.f2) :: (.int .i64 c.f2.f2) :: (.string c.f2.f3.f0) :: [.string c.f2.f3.f1, .string c.f2.f4.f0.f0, .string c.f2.f4.f0.f1, .string c.f2.f4.f0.f2, .int .i64 c.f2.f4.f1, .string c.f2.f4.f2, .int .i64 c.f3.f0, .string c.f3.f1.f0, .string c.f3.f1.f1, .string c.f3.f1.f2, .int .i64 c.f3.f2, .string c.f3.f3.f0, .string c.f3.f3.f1, .string c.f3.f4.f0.f0, .string c.f3.f4.f0.f1, .string c.f3.f4.f0.f2, .int .i64 c.f3.f4.f1, .string c.f3.f4.f2, .string m.f0, .string m.f1, .string m.f2, .int .i64 c.f4.f1, .string c.f4.f2, .string c.f5.f0, .string c.f5.f1, .string c.f6, .string c.f7.f0, .string c.f7.f1, .string c.f7.f2, .slice none 0 0]))) HRb.out 29 (.int .i64 pc) rfl))
  have HRr := Aside0.mk (show Kd.R k60 60 (W1.setCell ⟨n, 29, none⟩ (.int .i64 pc)) base (fun k => True ∧ k ≠ n) v l from (Kd.R_far (p := ⟨n, 29, none⟩) HRr.out (fun _ hk => hk.2) (.int .i64 pc)))
  have HBe := Aside0.mk (show Below w.heap.size w (W1.setCell ⟨n, 29, none⟩ (.int .i64 pc)) from (HBe.out.setCell hnn (.int .i64 pc)))
  have HSz := Aside0.mk (show (W1.setCell ⟨n, 29, none⟩ (.int .i64 pc)).heap.size = n + 1 from by rw [World.size_setCell]; exact HSz.out)
  generalize (W1.setCell ⟨n, 29, none⟩ (.int .i64 pc)) = W2 at HMb HRb HRr HBe HSz ⊢
  replace HMb : Aside0 (W2.drew.heap[g]? = some (Obj.cells #[a0, a1, a2, a3, a4, .string m.f0, .string m.f1, .string m.f2, .int .i64 pc, b0, b1, b2, b3, b4, b5, b6, b7, b8, v] 85 (0, 0))) := ⟨HMb.out⟩
  replace HRr : Aside0 (Kd.R k60 60 W2.drew base (fun k => True ∧ k ≠ n) v l) := ⟨by apply Kd.R_drew; exact HRr.out⟩
  replace HBe : Aside0 (Below w.heap.size w W2.drew) := ⟨below_drew1 HBe.out⟩
  replace HSz : Aside0 (W2.drew.heap.size = n + 1) := ⟨HSz.out⟩
  have q18 : W2.drew.cell? ⟨g, 18, none⟩ = some v := blk_cell HMb.out 18
  have qf : Aside0 (W2.drew.frozen? ⟨g, 18, none⟩ = false) := ⟨blk_frozen HMb.out 18⟩
  have rb : W2.drew.heap[n]? = some (Obj.cells (List.toArray ((.int .i64 c.f0) :: (.int .i64 pc) :: (.int .i64 c.f2.f0) :: (.string c.f2.f1.f0) :: (.string c.f2.f1.f1) :: (.string c.f2.f1.f2) :: (.int .i64 c.f2.f2) :: (.string c.f2.f3.f0) :: [.string c.f2.f3.f1, .string c.f2.f4.f0.f0, .string c.f2.f4.f0.f1, .string c.f2.f4.f0.f2, .int .i64 c.f2.f4.f1, .string c.f2.f4.f2, .int .i64 c.f3.f0, .string c.f3.f1.f0, .string c.f3.f1.f1, .string c.f3.f1.f2, .int .i64 c.f3.f2, .string c.f3.f3.f0, .string c.f3.f3.f1, .string c.f3.f4.f0.f0, .string c.f3.f4.f0.f1, .string c.f3.f4.f0.f2, .int .i64 c.f3.f4.f1, .string c.f3.f4.f2, .string m.f0, .string m.f1, .string m.f2, .int .i64 pc, .string c.f4.f2, .string c.f5.f0, .string c.f5.f1, .string c.f6, .string c.f7.f0, .string c.f7.f1, .string c.f7.f2, .slice none 0 0])) 60 (0, 0)) := HRb.out
  have HBz : Aside0 (base ≤ W2.drew.heap.size) := ⟨by have := HSz.out; omega⟩
  have HGlt : Aside0 ((⟨g, 18, none⟩ : Addr).block < W2.drew.heap.size) := ⟨by have := HSz.out; show g < W2.drew.heap.size; omega⟩
  have HPne : Aside0 (some n ≠ v.ownBlock) := ⟨fun e => by have := HVlt.out _ e.symm; omega⟩
  refine start_ (n := 11) (S := fun w' => w'.cell? ⟨g, 18, none⟩ = some v ∧ w'.heap[n]? = some (Obj.cells (List.toArray ((.int .i64 c.f0) :: (.int .i64 pc) :: (.int .i64 c.f2.f0) :: (.string c.f2.f1.f0) :: (.string c.f2.f1.f1) :: (.string c.f2.f1.f2) :: (.int .i64 c.f2.f2) :: (.string c.f2.f3.f0) :: [.string c.f2.f3.f1, .string c.f2.f4.f0.f0, .string c.f2.f4.f0.f1, .string c.f2.f4.f0.f2, .int .i64 c.f2.f4.f1, .string c.f2.f4.f2, .int .i64 c.f3.f0, .string c.f3.f1.f0, .string c.f3.f1.f1, .string c.f3.f1.f2, .int .i64 c.f3.f2, .string c.f3.f3.f0, .string c.f3.f3.f1, .string c.f3.f4.f0.f0, .string c.f3.f4.f0.f1, .string c.f3.f4.f0.f2, .int .i64 c.f3.f4.f1, .string c.f3.f4.f2, .string m.f0, .string m.f1, .string m.f2, .int .i64 pc, .string c.f4.f2, .string c.f5.f0, .string c.f5.f1, .string c.f6, .string c.f7.f0, .string c.f7.f1, .string c.f7.f2, .slice none 0 0])) 60 (0, 0))) (ds := [10]) #[false, false, false, false, false, false, false, false, false, false, false] (by kernel_rfl) rfl rfl ⟨q18, rb⟩ (fun hHeld => ?_)
  generalize W2.drew = X at HMb HRr HBe HSz HBz HGlt qf q18 rb hHeld ⊢
  refine pure_ (i := 0) (N := some 24) (v := ?_) (a' := ?_) #[true, false, false, false, false, false, false, false, false, false, false] rfl rfl (by kernel_rfl) (fun _ _ _ h => h) (Or.inl ⟨by rfl, ?_⟩) ?_ ?_
  rotate_left
  · intro w'
    go_simp
    with_reducible rfl
  rotate_left
  · simp only [Act.put, List.setIfInBounds_toArray, List.set_cons_zero, List.set_cons_succ, i64_w, i32_w]
    rfl
  refine pure_ (i := 1) (N := some 25) (v := ?_) (a' := ?_) #[true, true, false, false, false, false, false, false, false, false, false] rfl rfl (by kernel_rfl) (fun _ _ _ h => h) (Or.inl ⟨by rfl, ?_⟩) ?_ ?_
  rotate_left
  · intro w'
    go_simp
    with_reducible rfl
  rotate_left
  · simp only [Act.put, List.setIfInBounds_toArray, List.set_cons_zero, List.set_cons_succ, i64_w, i32_w]
    rfl
  refine pure_ (i := 2) (N := some 26) (v := ?_) (a' := ?_) #[true, true, true, false, false, false, false, false, false, false, false] rfl rfl (by kernel_rfl) (fun _ _ _ h => h) (Or.inl ⟨by rfl, ?_⟩) ?_ ?_
  rotate_left
  · intro w'
    go_simp
    with_reducible rfl
  rotate_left
  · simp only [Act.put, List.setIfInBounds_toArray, List.set_cons_zero, List.set_cons_succ, i64_w, i32_w]
    rfl
  refine pure_ (i := 3) (N := some 27) (v := ?_) (a' := ?_) #[true, true, true, true, false, false, false, false, false, false, false] rfl rfl (by kernel_rfl) (fun _ _ _ h => h) (Or.inl ⟨by rfl, ?_⟩) ?_ ?_
  rotate_left
  · intro w'
    go_simp
    with_reducible rfl
  rotate_left
  · simp only [Act.put, List.setIfInBounds_toArray, List.set_cons_zero, List.set_cons_succ, i64_w, i32_w]
    rfl
  refine take_ (i := 4) (N := some 28) (v := ?_) (a' := ?_) #[true, true, true, true, true, false, false, false, false, false, false] rfl rfl (by kernel_rfl) (fun _ _ _ h => h) (Or.inl ⟨by rfl, ?_⟩) hHeld ?_ ?_
  rotate_left
  · rintro w' ⟨s0, s1⟩
    go_simp
    with_reducible rfl
  rotate_left
  · simp only [Act.put, List.setIfInBounds_toArray, List.set_cons_zero, List.set_cons_succ, i64_w, i32_w]
    rfl
  refine take_ (i := 5) (N := some 29) (a' := ?_) #[true, true, true, true, true, true, false, false, false, false, false] rfl rfl (by kernel_rfl) (fun _ _ _ h => h) (yieldsIf_load_mid (by rfl) 60 (.tmp 3) rfl n 0 rfl ((.int .i64 c.f0) :: (.int .i64 pc) :: (.int .i64 c.f2.f0) :: (.string c.f2.f1.f0) :: (.string c.f2.f1.f1) :: (.string c.f2.f1.f2) :: (.int .i64 c.f2.f2) :: (.string c.f2.f3.f0) :: [.string c.f2.f3.f1, .string c.f2.f4.f0.f0, .string c.f2.f4.f0.f1, .string c.f2.f4.f0.f2, .int .i64 c.f2.f4.f1, .string c.f2.f4.f2, .int .i64 c.f3.f0, .string c.f3.f1.f0, .string c.f3.f1.f1, .string c.f3.f1.f2, .int .i64 c.f3.f2, .string c.f3.f3.f0, .string c.f3.f3.f1, .string c.f3.f4.f0.f0, .string c.f3.f4.f0.f1, .string c.f3.f4.f0.f2, .int .i64 c.f3.f4.f1, .string c.f3.f4.f2, .string m.f0, .string m.f1, .string m.f2, .int .i64 pc, .string c.f4.f2, .string c.f5.f0, .string c.f5.f1, .string c.f6, .string c.f7.f0, .string c.f7.f1, .string c.f7.f2, .slice none 0 0]) _ (fun w' hw' => rangeAt_blk hw'.2) Try.underlying60 rfl (by kernel_rfl)) hHeld ?_ ?_
  rotate_left
  · simp only [Act.put, List.setIfInBounds_toArray, List.set_cons_zero, List.set_cons_succ, i64_w, i32_w]
    rfl
  refine one_ (i := 6) (N := some 30) #[true, true, true, true, true, true, true, false, false, false, false] rfl rfl (by kernel_rfl) (by decide) (fun K hK => ?_)
  refine value_ (w1 := ?_) (v := ?_) (by rfl) rfl ?_ ?_
  rotate_left 2
  · go_simp
    constructor
    · rfl
    · rfl
  refine hK.out _ _ ⟨(((below_alloc (Below.refl _ _) _).cell (World.block_lt_of_cell? _ _ q18)).trans q18), (blk_alloc rb _)⟩ (fun hHeld => ?_)
  clear hK K
  refine norm_ (a' := ?_) ?_ ?_
  rotate_left
  · show Act.put _ (some 30) _ = _
    simp only [Act.put, List.setIfInBounds_toArray, List.set_cons_zero, List.set_cons_succ, i64_w, i32_w]
    rfl
  refine one_ (i := 7) (N := some 31) #[true, true, true, true, true, true, true, true, false, false, false] rfl rfl (by kernel_rfl) (by decide) (fun K hK => ?_)
  refine Kd.R_append_step k60 (w0 := w) base (by rfl) _ _ 62 60 _ 544 rfl Try.underlying62 cons_info rfl (by decide) (by decide) v l (⟨c.f0, pc, c.f2, c.f3, ⟨m, pc, c.f4.f2⟩, c.f5, c.f6, c.f7, c.f8⟩ : S60) ((.int .i64 c.f0) :: (.int .i64 pc) :: (.int .i64 c.f2.f0) :: (.string c.f2.f1.f0) :: (.string c.f2.f1.f1) :: (.string c.f2.f1.f2) :: (.int .i64 c.f2.f2) :: (.string c.f2.f3.f0) :: [.string c.f2.f3.f1, .string c.f2.f4.f0.f0, .string c.f2.f4.f0.f1, .string c.f2.f4.f0.f2, .int .i64 c.f2.f4.f1, .string c.f2.f4.f2, .int .i64 c.f3.f0, .string c.f3.f1.f0, .string c.f3.f1.f1, .string c.f3.f1.f2, .int .i64 c.f3.f2, .string c.f3.f3.f0, .string c.f3.f3.f1, .string c.f3.f4.f0.f0, .string c.f3.f4.f0.f1, .string c.f3.f4.f0.f2, .int .i64 c.f3.f4.f1, .string c.f3.f4.f2, .string m.f0, .string m.f1, .string m.f2, .int .i64 pc, .string c.f4.f2, .string c.f5.f0, .string c.f5.f1, .string c.f6, .string c.f7.f0, .string c.f7.f1, .string c.f7.f2, .slice none 0 0]) (fun k => True ∧ k ≠ n) (fun _ => False) rfl (by rfl) (k60_mkM _ _ _ (⟨c.f0, pc, c.f2, c.f3, ⟨m, pc, c.f4.f2⟩, c.f5, c.f6, c.f7, c.f8⟩ : S60) (v37 := .slice none 0 0) (HNil.out _ _)) (fun _ hk => hk.elim) (fun k hk => ⟨trivial, by have := HSz.out; omega⟩) HRr.out (HBe.out.mono HBW.out) HBz.out HLn.out ?_
  intro v' w2 hR2 hB2 hg2 hat2
  obtain ⟨Av, nv, cv, hv⟩ : ∃ A n c, v' = Value.slice A n c := by obtain ⟨A, c, e⟩ := Kd.R_slice hR2; exact ⟨A, _, c, e⟩
  subst hv
  have HR2 := Aside0.mk (Kd.R_mono hR2 (fun _ _ => trivial))
  have HB2 := Aside0.mk hB2
  have HG2 := Aside0.mk hg2
  have HT2 := Aside0.mk hat2
  have q18' := hg2.cell q18 HVne.out
  have tf := (hg2.frozen_far ⟨g, 18, none⟩ HGlt.out HVne.out).trans qf.out
  have rb' := blk_grown rb hg2 HPne.out
  clear hR2 hB2 hg2 hat2
  refine hK.out _ _ ⟨q18', rb'⟩ (fun hHeld => ?_)
  clear hK K
  refine norm_ (a' := ?_) ?_ ?_
  rotate_left
  · show Act.put _ (some 31) _ = _
    simp only [Act.put, List.setIfInBounds_toArray, List.set_cons_zero, List.set_cons_succ, i64_w, i32_w]
    rfl
  refine pure_ (i := 8) (N := some 32) (v := ?_) (a' := ?_) #[true, true, true, true, true, true, true, true, true, false, false] rfl rfl (by kernel_rfl) (fun _ _ _ h => h) (Or.inl ⟨by rfl, ?_⟩) ?_ ?_
  rotate_left
  · intro w'
    go_simp
    with_reducible rfl
  rotate_left
  · simp only [Act.put, List.setIfInBounds_toArray, List.set_cons_zero, List.set_cons_succ, i64_w, i32_w]
    rfl
  refine pure_ (i := 9) (N := some 33) (v := ?_) (a' := ?_) #[true, true, true, true, true, true, true, true, true, true, false] rfl rfl (by kernel_rfl) (fun _ _ _ h => h) (Or.inl ⟨by rfl, ?_⟩) ?_ ?_
  rotate_left
  · intro w'
    go_simp
    with_reducible rfl
  rotate_left
  · simp only [Act.put, List.setIfInBounds_toArray, List.set_cons_zero, List.set_cons_succ, i64_w, i32_w]
    rfl
  refine last_ (i := 10) (N := none) #[true, true, true, true, true, true, true, true, true, true, true] rfl rfl (by kernel_rfl) (by decide) (fun K hK => ?_)
  refine skip_ (w1 := ?_) (by rfl) rfl ?_ ?_
  rotate_left
  · go_simp
    rfl
  refine hK.out _ _ ?_
  clear hK K
  refine done_ (by kernel_rfl) ?_
  go_wp2_with fail
  have hfin := MkOwn.put (w := w) (MkOwn.mk HMb.out HB0 (Kd.R_mono HRr.out (fun _ _ => trivial))) HR2.out HG2.out HB2.out
  have hkp : Kp w (w2.setCell ⟨g, 18, none⟩ (.slice Av nv cv)) g v (.slice Av nv cv) := Kp.mk' HBe.out HG2.out HT2.out
  first
    | exact bodyPost_end (v := .tuple #[]) (by simp [results, Try.results61, go_sem]) rfl ⟨rfl, ⟨_, hfin.1, hfin.2, hkp⟩⟩
    | exact bodyPost_end (v := .tuple #[]) (by simp [results, Try.f61, go_sem]) rfl ⟨rfl, ⟨_, hfin.1, hfin.2, hkp⟩⟩
    | exact bodyPost_ret (v := .tuple #[]) (by simp [results, Try.results61, go_sem]) rfl ⟨rfl, ⟨_, hfin.1, hfin.2, hkp⟩⟩
end Go.Proofs.Ytfplcohjnlbfjaa.Hand
end

section
namespace Go.Proofs.Ytfplcohjnlbfjaa.Q43
open Go.RowKit Go.Proofs.YtfplcohjnlbfjaaW.PrintWords Go.Proofs.YtfplcohjnlbfjaaW.PrintLast Go.Proofs.YtfplcohjnlbfjaaW.PrintMore Go.Proofs.Ytfplcohjnlbfjaa.Hand
attribute [local go_sem] max2_int min2_int max_two min_two max_three min_three max_four min_four   -- for this text's walks alone
set_option linter.unusedVariables false
set_option linter.unusedSimpArgs false
def errW : Option Int → Value
  | none => .nilIface
  | some c => .iface 0 (.int .i64 c)
theorem errW_none : errW none = .nilIface := rfl
theorem errW_some (c : Int) : errW (some c) = .iface 0 (.int .i64 c) := rfl
end Go.Proofs.Ytfplcohjnlbfjaa.Q43
end

section
namespace Go.Proofs.Ytfplcohjnlbfjaa.Q43
open Go.RowKit Go.Proofs.YtfplcohjnlbfjaaW.PrintWords Go.Proofs.YtfplcohjnlbfjaaW.PrintLast Go.Proofs.YtfplcohjnlbfjaaW.PrintMore Go.Proofs.Ytfplcohjnlbfjaa.Hand
attribute [local go_sem] max2_int min2_int max_two min_two max_three min_three max_four min_four   -- for this text's walks alone
set_option linter.unusedVariables false
set_option linter.unusedSimpArgs false
def gen_Reg.f (a0_0 : ByteArray) (a0_1 : ByteArray) (a0_2 : ByteArray) (a1 : Int) : Option (Int × ByteArray × ByteArray × ByteArray × Int × ByteArray × ByteArray × ByteArray × ByteArray × ByteArray × Int × ByteArray) := some (1, a0_0, a0_1, a0_2, a1, (⟨#[]⟩ : ByteArray), (⟨#[]⟩ : ByteArray), (⟨#[]⟩ : ByteArray), (⟨#[]⟩ : ByteArray), (⟨#[]⟩ : ByteArray), 0, (⟨#[]⟩ : ByteArray))
set_option maxHeartbeats 8000000 in
set_option maxRecDepth 100000 in
theorem gen_Reg.calls (a0_0 : ByteArray) (a0_1 : ByteArray) (a0_2 : ByteArray) (a1 : Int) (r1 : Int) (r2 : ByteArray) (r3 : ByteArray) (r4 : ByteArray) (r5 : Int) (r6 : ByteArray) (r7 : ByteArray) (r8 : ByteArray) (r9 : ByteArray) (r10 : ByteArray) (r11 : Int) (r12 : ByteArray) (w : World) (h : gen_Reg.f a0_0 a0_1 a0_2 a1 = some (r1, r2, r3, r4, r5, r6, r7, r8, r9, r10, r11, r12)) :
    Calls Try.prog 13 #[.agg #[.string a0_0, .string a0_1, .string a0_2], .int .i64 a1] w fun e w' => e = .returned (.agg #[.int .i64 r1, .string r2, .string r3, .string r4, .int .i64 r5, .string r6, .string r7, .string r8, .string r9, .string r10, .int .i64 r11, .string r12]) ∧ Below w.heap.size w w' := by
  have hu25 := Try.underlying25
  have hu50 := Try.underlying50
  have HB := Aside0.mk (Below.refl w.heap.size w)
  have H : (some (1, a0_0, a0_1, a0_2, a1, (⟨#[]⟩ : ByteArray), (⟨#[]⟩ : ByteArray), (⟨#[]⟩ : ByteArray), (⟨#[]⟩ : ByteArray), (⟨#[]⟩ : ByteArray), 0, (⟨#[]⟩ : ByteArray))) = some (r1, r2, r3, r4, r5, r6, r7, r8, r9, r10, r11, r12) := h
  clear h
  simp only [Option.some.injEq, Prod.mk.injEq] at H
  obtain ⟨rfl, rfl, rfl, rfl, rfl, rfl, rfl, rfl, rfl, rfl, rfl, rfl⟩ := H
  go_enter Try.func13, Try.ntmps13
  go_wp2_with (first | ((with_reducible refine gate_dst (N := 2) rfl ?_); refine box_event ?hg (N := 2) ?hd (cs := #[.string a0_0, .string a0_1, .string a0_2]) (t := 25) ?hr ?_; (case hd => rfl); (case hg => rfl); (case hr => first | (go_simp; done) | (go_simp; rfl)); intro gb101 hg w3 hbox hb; have n0_ := Aside0.mk (below_step (by repeat (first | (with_reducible first | exact HB.out | apply below_alloc | apply pw_below_drewN | apply below_drew1) | exact HB.out)) hb); have n1_ := Aside0.mk (hbox); have n2_ := Aside0.mk ((by rw [hg]; exact (below_size (by repeat (first | (with_reducible first | exact HB.out | apply below_alloc | apply pw_below_drewN | apply below_drew1) | exact HB.out))) : w.heap.size ≤ gb101)); have n3_ := Aside0.mk ((by rw [hg]; exact (below_size (by repeat (first | (with_reducible first | exact HB.out | apply below_alloc | apply pw_below_drewN | apply below_drew1) | exact HB.out))) : w.heap.size ≤ gb101)); clear HB; have HB := n0_; have BK101 := n1_; have GW101 := n2_; have GE101 := n3_; clear n0_ n1_ n2_ n3_; clear hb hbox hg) | ((with_reducible refine gate_dst (N := 4) rfl ?_); refine box_event ?hg (N := 4) ?hd (cs := #[.int .i64 0, .string (⟨#[]⟩ : ByteArray), .string (⟨#[]⟩ : ByteArray), .string (⟨#[]⟩ : ByteArray), .int .i64 0, .string (⟨#[]⟩ : ByteArray), .string (⟨#[]⟩ : ByteArray), .string (⟨#[]⟩ : ByteArray), .string (⟨#[]⟩ : ByteArray), .string (⟨#[]⟩ : ByteArray), .int .i64 0, .string (⟨#[]⟩ : ByteArray)]) (t := 50) ?hr ?_; (case hd => rfl); (case hg => rfl); (case hr => first | (go_simp; done) | (go_simp; rfl)); intro gb102 hg w4 hbox hb; have n0_ := Aside0.mk (blk_below (g := gb101) (o := .cells #[.string a0_0, .string a0_1, .string a0_2] 25 (0, 0)) (by (with_reducible repeat (first | refine blk_drewN ?_ _ | refine blk_drew ?_ | refine blk_alloc ?_ _)); exact BK101.out) hb); have n1_ := Aside0.mk (below_step (by repeat (first | (with_reducible first | exact HB.out | apply below_alloc | apply pw_below_drewN | apply below_drew1 | refine below_set ?_ GE101.out) | exact HB.out)) hb); have n2_ := Aside0.mk (hbox); have n3_ := Aside0.mk ((by rw [hg]; exact (below_size (by repeat (first | (with_reducible first | exact HB.out | apply below_alloc | apply pw_below_drewN | apply below_drew1 | refine below_set ?_ GE101.out) | exact HB.out))) : w.heap.size ≤ gb102)); have n4_ := Aside0.mk ((by rw [hg]; exact (below_size (by repeat (first | (with_reducible first | exact HB.out | apply below_alloc | apply pw_below_drewN | apply below_drew1 | refine below_set ?_ GE101.out) | exact HB.out))) : w.heap.size ≤ gb102)); have n5_ := Aside0.mk ((by rw [hg]; exact Nat.ne_of_lt (blk_lt (g := gb101) (o := .cells #[.string a0_0, .string a0_1, .string a0_2] 25 (0, 0)) (by (with_reducible repeat (first | refine blk_drewN ?_ _ | refine blk_drew ?_ | refine blk_alloc ?_ _)); exact BK101.out)) : gb101 ≠ gb102)); have n6_ := Aside0.mk ((by rw [hg]; exact Nat.ne_of_gt (blk_lt (g := gb101) (o := .cells #[.string a0_0, .string a0_1, .string a0_2] 25 (0, 0)) (by (with_reducible repeat (first | refine blk_drewN ?_ _ | refine blk_drew ?_ | refine blk_alloc ?_ _)); exact BK101.out)) : gb102 ≠ gb101)); clear BK101; clear HB; have BK101 := n0_; have HB := n1_; have BK102 := n2_; have GW102 := n3_; have GE102 := n4_; have NB101_102 := n5_; have NB102_101 := n6_; clear n0_ n1_ n2_ n3_ n4_ n5_ n6_; clear hb hbox hg; have hnb5 := NB101_102.out; have hnc5 := NB102_101.out; have hcz6_0 : w4.cell? ⟨gb101, 0, none⟩ = some (.string a0_0) := (blk_cell BK101.out 0).trans rfl; have hcz6_1 : w4.cell? ⟨gb101, 1, none⟩ = some (.string a0_1) := (blk_cell BK101.out 1).trans rfl; have hcz6_2 : w4.cell? ⟨gb101, 2, none⟩ = some (.string a0_2) := (blk_cell BK101.out 2).trans rfl; have hfz6_0 := blk_frozen BK101.out 0; have hfz6_1 := blk_frozen BK101.out 1; have hfz6_2 := blk_frozen BK101.out 2; have hcz7_0 : w4.cell? ⟨gb102, 0, none⟩ = some (.int .i64 0) := (blk_cell BK102.out 0).trans rfl; have hcz7_1 : w4.cell? ⟨gb102, 1, none⟩ = some (.string (⟨#[]⟩ : ByteArray)) := (blk_cell BK102.out 1).trans rfl; have hcz7_2 : w4.cell? ⟨gb102, 2, none⟩ = some (.string (⟨#[]⟩ : ByteArray)) := (blk_cell BK102.out 2).trans rfl; have hcz7_3 : w4.cell? ⟨gb102, 3, none⟩ = some (.string (⟨#[]⟩ : ByteArray)) := (blk_cell BK102.out 3).trans rfl; have hcz7_4 : w4.cell? ⟨gb102, 4, none⟩ = some (.int .i64 0) := (blk_cell BK102.out 4).trans rfl; have hcz7_5 : w4.cell? ⟨gb102, 5, none⟩ = some (.string (⟨#[]⟩ : ByteArray)) := (blk_cell BK102.out 5).trans rfl; have hcz7_6 : w4.cell? ⟨gb102, 6, none⟩ = some (.string (⟨#[]⟩ : ByteArray)) := (blk_cell BK102.out 6).trans rfl; have hcz7_7 : w4.cell? ⟨gb102, 7, none⟩ = some (.string (⟨#[]⟩ : ByteArray)) := (blk_cell BK102.out 7).trans rfl; have hcz7_8 : w4.cell? ⟨gb102, 8, none⟩ = some (.string (⟨#[]⟩ : ByteArray)) := (blk_cell BK102.out 8).trans rfl; have hcz7_9 : w4.cell? ⟨gb102, 9, none⟩ = some (.string (⟨#[]⟩ : ByteArray)) := (blk_cell BK102.out 9).trans rfl; have hcz7_10 : w4.cell? ⟨gb102, 10, none⟩ = some (.int .i64 0) := (blk_cell BK102.out 10).trans rfl; have hcz7_11 : w4.cell? ⟨gb102, 11, none⟩ = some (.string (⟨#[]⟩ : ByteArray)) := (blk_cell BK102.out 11).trans rfl; have hfz7_0 := blk_frozen BK102.out 0; have hfz7_1 := blk_frozen BK102.out 1; have hfz7_2 := blk_frozen BK102.out 2; have hfz7_3 := blk_frozen BK102.out 3; have hfz7_4 := blk_frozen BK102.out 4; have hfz7_5 := blk_frozen BK102.out 5; have hfz7_6 := blk_frozen BK102.out 6; have hfz7_7 := blk_frozen BK102.out 7; have hfz7_8 := blk_frozen BK102.out 8; have hfz7_9 := blk_frozen BK102.out 9; have hfz7_10 := blk_frozen BK102.out 10; have hfz7_11 := blk_frozen BK102.out 11))
  refine bodyPost_ret (results_cell_row rfl _ _ gb102 50 #[.int .i64 1, .string a0_0, .string a0_1, .string a0_2, .int .i64 a1, .string (⟨#[]⟩ : ByteArray), .string (⟨#[]⟩ : ByteArray), .string (⟨#[]⟩ : ByteArray), .string (⟨#[]⟩ : ByteArray), .string (⟨#[]⟩ : ByteArray), .int .i64 0, .string (⟨#[]⟩ : ByteArray)] (0, 0) _ rfl (by (with_reducible repeat (first | refine blk_drewN ?_ _ | refine blk_drew ?_ | refine blk_alloc ?_ _)); refine blk_put (cs := #[.int .i64 1, .string a0_0, .string a0_1, .string a0_2, .int .i64 a1, .string (⟨#[]⟩ : ByteArray), .string (⟨#[]⟩ : ByteArray), .string (⟨#[]⟩ : ByteArray), .string (⟨#[]⟩ : ByteArray), .string (⟨#[]⟩ : ByteArray), .int .i64 0, .string (⟨#[]⟩ : ByteArray)]) ?_ 11 _ rfl; (with_reducible repeat (first | refine blk_drewN ?_ _ | refine blk_drew ?_ | refine blk_alloc ?_ _)); refine blk_put (cs := #[.int .i64 1, .string a0_0, .string a0_1, .string a0_2, .int .i64 a1, .string (⟨#[]⟩ : ByteArray), .string (⟨#[]⟩ : ByteArray), .string (⟨#[]⟩ : ByteArray), .string (⟨#[]⟩ : ByteArray), .string (⟨#[]⟩ : ByteArray), .int .i64 0, .string (⟨#[]⟩ : ByteArray)]) ?_ 10 _ rfl; (with_reducible repeat (first | refine blk_drewN ?_ _ | refine blk_drew ?_ | refine blk_alloc ?_ _)); refine blk_put (cs := #[.int .i64 1, .string a0_0, .string a0_1, .string a0_2, .int .i64 a1, .string (⟨#[]⟩ : ByteArray), .string (⟨#[]⟩ : ByteArray), .string (⟨#[]⟩ : ByteArray), .string (⟨#[]⟩ : ByteArray), .string (⟨#[]⟩ : ByteArray), .int .i64 0, .string (⟨#[]⟩ : ByteArray)]) ?_ 9 _ rfl; (with_reducible repeat (first | refine blk_drewN ?_ _ | refine blk_drew ?_ | refine blk_alloc ?_ _)); refine blk_put (cs := #[.int .i64 1, .string a0_0, .string a0_1, .string a0_2, .int .i64 a1, .string (⟨#[]⟩ : ByteArray), .string (⟨#[]⟩ : ByteArray), .string (⟨#[]⟩ : ByteArray), .string (⟨#[]⟩ : ByteArray), .string (⟨#[]⟩ : ByteArray), .int .i64 0, .string (⟨#[]⟩ : ByteArray)]) ?_ 8 _ rfl; (with_reducible repeat (first | refine blk_drewN ?_ _ | refine blk_drew ?_ | refine blk_alloc ?_ _)); refine blk_put (cs := #[.int .i64 1, .string a0_0, .string a0_1, .string a0_2, .int .i64 a1, .string (⟨#[]⟩ : ByteArray), .string (⟨#[]⟩ : ByteArray), .string (⟨#[]⟩ : ByteArray), .string (⟨#[]⟩ : ByteArray), .string (⟨#[]⟩ : ByteArray), .int .i64 0, .string (⟨#[]⟩ : ByteArray)]) ?_ 7 _ rfl; (with_reducible repeat (first | refine blk_drewN ?_ _ | refine blk_drew ?_ | refine blk_alloc ?_ _)); refine blk_put (cs := #[.int .i64 1, .string a0_0, .string a0_1, .string a0_2, .int .i64 a1, .string (⟨#[]⟩ : ByteArray), .string (⟨#[]⟩ : ByteArray), .string (⟨#[]⟩ : ByteArray), .string (⟨#[]⟩ : ByteArray), .string (⟨#[]⟩ : ByteArray), .int .i64 0, .string (⟨#[]⟩ : ByteArray)]) ?_ 6 _ rfl; (with_reducible repeat (first | refine blk_drewN ?_ _ | refine blk_drew ?_ | refine blk_alloc ?_ _)); refine blk_put (cs := #[.int .i64 1, .string a0_0, .string a0_1, .string a0_2, .int .i64 a1, .string (⟨#[]⟩ : ByteArray), .string (⟨#[]⟩ : ByteArray), .string (⟨#[]⟩ : ByteArray), .string (⟨#[]⟩ : ByteArray), .string (⟨#[]⟩ : ByteArray), .int .i64 0, .string (⟨#[]⟩ : ByteArray)]) ?_ 5 _ rfl; (with_reducible repeat (first | refine blk_drewN ?_ _ | refine blk_drew ?_ | refine blk_alloc ?_ _)); refine blk_put (cs := #[.int .i64 1, .string a0_0, .string a0_1, .string a0_2, .int .i64 0, .string (⟨#[]⟩ : ByteArray), .string (⟨#[]⟩ : ByteArray), .string (⟨#[]⟩ : ByteArray), .string (⟨#[]⟩ : ByteArray), .string (⟨#[]⟩ : ByteArray), .int .i64 0, .string (⟨#[]⟩ : ByteArray)]) ?_ 4 _ rfl; (with_reducible repeat (first | refine blk_drewN ?_ _ | refine blk_drew ?_ | refine blk_alloc ?_ _)); refine blk_put (cs := #[.int .i64 1, .string a0_0, .string a0_1, .string (⟨#[]⟩ : ByteArray), .int .i64 0, .string (⟨#[]⟩ : ByteArray), .string (⟨#[]⟩ : ByteArray), .string (⟨#[]⟩ : ByteArray), .string (⟨#[]⟩ : ByteArray), .string (⟨#[]⟩ : ByteArray), .int .i64 0, .string (⟨#[]⟩ : ByteArray)]) ?_ 3 _ rfl; (with_reducible repeat (first | refine blk_drewN ?_ _ | refine blk_drew ?_ | refine blk_alloc ?_ _)); refine blk_put (cs := #[.int .i64 1, .string a0_0, .string (⟨#[]⟩ : ByteArray), .string (⟨#[]⟩ : ByteArray), .int .i64 0, .string (⟨#[]⟩ : ByteArray), .string (⟨#[]⟩ : ByteArray), .string (⟨#[]⟩ : ByteArray), .string (⟨#[]⟩ : ByteArray), .string (⟨#[]⟩ : ByteArray), .int .i64 0, .string (⟨#[]⟩ : ByteArray)]) ?_ 2 _ rfl; (with_reducible repeat (first | refine blk_drewN ?_ _ | refine blk_drew ?_ | refine blk_alloc ?_ _)); refine blk_put (cs := #[.int .i64 1, .string (⟨#[]⟩ : ByteArray), .string (⟨#[]⟩ : ByteArray), .string (⟨#[]⟩ : ByteArray), .int .i64 0, .string (⟨#[]⟩ : ByteArray), .string (⟨#[]⟩ : ByteArray), .string (⟨#[]⟩ : ByteArray), .string (⟨#[]⟩ : ByteArray), .string (⟨#[]⟩ : ByteArray), .int .i64 0, .string (⟨#[]⟩ : ByteArray)]) ?_ 1 _ rfl; (with_reducible repeat (first | refine blk_drewN ?_ _ | refine blk_drew ?_ | refine blk_alloc ?_ _)); refine blk_put (cs := #[.int .i64 0, .string (⟨#[]⟩ : ByteArray), .string (⟨#[]⟩ : ByteArray), .string (⟨#[]⟩ : ByteArray), .int .i64 0, .string (⟨#[]⟩ : ByteArray), .string (⟨#[]⟩ : ByteArray), .string (⟨#[]⟩ : ByteArray), .string (⟨#[]⟩ : ByteArray), .string (⟨#[]⟩ : ByteArray), .int .i64 0, .string (⟨#[]⟩ : ByteArray)]) ?_ 0 _ rfl; (with_reducible repeat (first | refine blk_drewN ?_ _ | refine blk_drew ?_ | refine blk_alloc ?_ _)); exact BK102.out) Try.underlying50 rfl (by kernel_rfl)) rfl ?_
  exact ⟨by first | rfl | (simp [errW_none, errW_some] <;> rfl) | (simp [*, errW_none, errW_some] <;> rfl), by repeat (first | (with_reducible first | exact HB.out | apply below_alloc | apply pw_below_drewN | apply below_drew1 | refine below_set ?_ GE101.out | refine below_set ?_ GE102.out) | exact HB.out)⟩
def gen_Ret.f (a0_0 : ByteArray) (a0_1 : ByteArray) (a0_2 : ByteArray) : Option (Int × ByteArray × ByteArray × ByteArray × Int × ByteArray × ByteArray × ByteArray × ByteArray × ByteArray × Int × ByteArray) := some (2, a0_0, a0_1, a0_2, 0, (⟨#[]⟩ : ByteArray), (⟨#[]⟩ : ByteArray), (⟨#[]⟩ : ByteArray), (⟨#[]⟩ : ByteArray), (⟨#[]⟩ : ByteArray), 0, (⟨#[]⟩ : ByteArray))
set_option maxHeartbeats 8000000 in
set_option maxRecDepth 100000 in
theorem gen_Ret.calls (a0_0 : ByteArray) (a0_1 : ByteArray) (a0_2 : ByteArray) (r1 : Int) (r2 : ByteArray) (r3 : ByteArray) (r4 : ByteArray) (r5 : Int) (r6 : ByteArray) (r7 : ByteArray) (r8 : ByteArray) (r9 : ByteArray) (r10 : ByteArray) (r11 : Int) (r12 : ByteArray) (w : World) (h : gen_Ret.f a0_0 a0_1 a0_2 = some (r1, r2, r3, r4, r5, r6, r7, r8, r9, r10, r11, r12)) :
    Calls Try.prog 15 #[.agg #[.string a0_0, .string a0_1, .string a0_2]] w fun e w' => e = .returned (.agg #[.int .i64 r1, .string r2, .string r3, .string r4, .int .i64 r5, .string r6, .string r7, .string r8, .string r9, .string r10, .int .i64 r11, .string r12]) ∧ Below w.heap.size w w' := by
  have hu25 := Try.underlying25
  have hu50 := Try.underlying50
  have HB := Aside0.mk (Below.refl w.heap.size w)
  have H : (some (2, a0_0, a0_1, a0_2, 0, (⟨#[]⟩ : ByteArray), (⟨#[]⟩ : ByteArray), (⟨#[]⟩ : ByteArray), (⟨#[]⟩ : ByteArray), (⟨#[]⟩ : ByteArray), 0, (⟨#[]⟩ : ByteArray))) = some (r1, r2, r3, r4, r5, r6, r7, r8, r9, r10, r11, r12) := h
  clear h
  simp only [Option.some.injEq, Prod.mk.injEq] at H
  obtain ⟨rfl, rfl, rfl, rfl, rfl, rfl, rfl, rfl, rfl, rfl, rfl, rfl⟩ := H
  go_enter Try.func15, Try.ntmps15
  go_wp2_with (first | ((with_reducible refine gate_dst (N := 1) rfl ?_); refine box_event ?hg (N := 1) ?hd (cs := #[.string a0_0, .string a0_1, .string a0_2]) (t := 25) ?hr ?_; (case hd => rfl); (case hg => rfl); (case hr => first | (go_simp; done) | (go_simp; rfl)); intro gb103 hg w2 hbox hb; have n0_ := Aside0.mk (below_step (by repeat (first | (with_reducible first | exact HB.out | apply below_alloc | apply pw_below_drewN | apply below_drew1) | exact HB.out)) hb); have n1_ := Aside0.mk (hbox); have n2_ := Aside0.mk ((by rw [hg]; exact (below_size (by repeat (first | (with_reducible first | exact HB.out | apply below_alloc | apply pw_below_drewN | apply below_drew1) | exact HB.out))) : w.heap.size ≤ gb103)); have n3_ := Aside0.mk ((by rw [hg]; exact (below_size (by repeat (first | (with_reducible first | exact HB.out | apply below_alloc | apply pw_below_drewN | apply below_drew1) | exact HB.out))) : w.heap.size ≤ gb103)); clear HB; have HB := n0_; have BK103 := n1_; have GW103 := n2_; have GE103 := n3_; clear n0_ n1_ n2_ n3_; clear hb hbox hg) | ((with_reducible refine gate_dst (N := 2) rfl ?_); refine box_event ?hg (N := 2) ?hd (cs := #[.int .i64 0, .string (⟨#[]⟩ : ByteArray), .string (⟨#[]⟩ : ByteArray), .string (⟨#[]⟩ : ByteArray), .int .i64 0, .string (⟨#[]⟩ : ByteArray), .string (⟨#[]⟩ : ByteArray), .string (⟨#[]⟩ : ByteArray), .string (⟨#[]⟩ : ByteArray), .string (⟨#[]⟩ : ByteArray), .int .i64 0, .string (⟨#[]⟩ : ByteArray)]) (t := 50) ?hr ?_; (case hd => rfl); (case hg => rfl); (case hr => first | (go_simp; done) | (go_simp; rfl)); intro gb104 hg w3 hbox hb; have n0_ := Aside0.mk (blk_below (g := gb103) (o := .cells #[.string a0_0, .string a0_1, .string a0_2] 25 (0, 0)) (by (with_reducible repeat (first | refine blk_drewN ?_ _ | refine blk_drew ?_ | refine blk_alloc ?_ _)); exact BK103.out) hb); have n1_ := Aside0.mk (below_step (by repeat (first | (with_reducible first | exact HB.out | apply below_alloc | apply pw_below_drewN | apply below_drew1 | refine below_set ?_ GE103.out) | exact HB.out)) hb); have n2_ := Aside0.mk (hbox); have n3_ := Aside0.mk ((by rw [hg]; exact (below_size (by repeat (first | (with_reducible first | exact HB.out | apply below_alloc | apply pw_below_drewN | apply below_drew1 | refine below_set ?_ GE103.out) | exact HB.out))) : w.heap.size ≤ gb104)); have n4_ := Aside0.mk ((by rw [hg]; exact (below_size (by repeat (first | (with_reducible first | exact HB.out | apply below_alloc | apply pw_below_drewN | apply below_drew1 | refine below_set ?_ GE103.out) | exact HB.out))) : w.heap.size ≤ gb104)); have n5_ := Aside0.mk ((by rw [hg]; exact Nat.ne_of_lt (blk_lt (g := gb103) (o := .cells #[.string a0_0, .string a0_1, .string a0_2] 25 (0, 0)) (by (with_reducible repeat (first | refine blk_drewN ?_ _ | refine blk_drew ?_ | refine blk_alloc ?_ _)); exact BK103.out)) : gb103 ≠ gb104)); have n6_ := Aside0.mk ((by rw [hg]; exact Nat.ne_of_gt (blk_lt (g := gb103) (o := .cells #[.string a0_0, .string a0_1, .string a0_2] 25 (0, 0)) (by (with_reducible repeat (first | refine blk_drewN ?_ _ | refine blk_drew ?_ | refine blk_alloc ?_ _)); exact BK103.out)) : gb104 ≠ gb103)); clear BK103; clear HB; have BK103 := n0_; have HB := n1_; have BK104 := n2_; have GW104 := n3_; have GE104 := n4_; have NB103_104 := n5_; have NB104_103 := n6_; clear n0_ n1_ n2_ n3_ n4_ n5_ n6_; clear hb hbox hg; have hnb4 := NB103_104.out; have hnc4 := NB104_103.out; have hcz5_0 : w3.cell? ⟨gb103, 0, none⟩ = some (.string a0_0) := (blk_cell BK103.out 0).trans rfl; have hcz5_1 : w3.cell? ⟨gb103, 1, none⟩ = some (.string a0_1) := (blk_cell BK103.out 1).trans rfl; have hcz5_2 : w3.cell? ⟨gb103, 2, none⟩ = some (.string a0_2) := (blk_cell BK103.out 2).trans rfl; have hfz5_0 := blk_frozen BK103.out 0; have hfz5_1 := blk_frozen BK103.out 1; have hfz5_2 := blk_frozen BK103.out 2; have hcz6_0 : w3.cell? ⟨gb104, 0, none⟩ = some (.int .i64 0) := (blk_cell BK104.out 0).trans rfl; have hcz6_1 : w3.cell? ⟨gb104, 1, none⟩ = some (.string (⟨#[]⟩ : ByteArray)) := (blk_cell BK104.out 1).trans rfl; have hcz6_2 : w3.cell? ⟨gb104, 2, none⟩ = some (.string (⟨#[]⟩ : ByteArray)) := (blk_cell BK104.out 2).trans rfl; have hcz6_3 : w3.cell? ⟨gb104, 3, none⟩ = some (.string (⟨#[]⟩ : ByteArray)) := (blk_cell BK104.out 3).trans rfl; have hcz6_4 : w3.cell? ⟨gb104, 4, none⟩ = some (.int .i64 0) := (blk_cell BK104.out 4).trans rfl; have hcz6_5 : w3.cell? ⟨gb104, 5, none⟩ = some (.string (⟨#[]⟩ : ByteArray)) := (blk_cell BK104.out 5).trans rfl; have hcz6_6 : w3.cell? ⟨gb104, 6, none⟩ = some (.string (⟨#[]⟩ : ByteArray)) := (blk_cell BK104.out 6).trans rfl; have hcz6_7 : w3.cell? ⟨gb104, 7, none⟩ = some (.string (⟨#[]⟩ : ByteArray)) := (blk_cell BK104.out 7).trans rfl; have hcz6_8 : w3.cell? ⟨gb104, 8, none⟩ = some (.string (⟨#[]⟩ : ByteArray)) := (blk_cell BK104.out 8).trans rfl; have hcz6_9 : w3.cell? ⟨gb104, 9, none⟩ = some (.string (⟨#[]⟩ : ByteArray)) := (blk_cell BK104.out 9).trans rfl; have hcz6_10 : w3.cell? ⟨gb104, 10, none⟩ = some (.int .i64 0) := (blk_cell BK104.out 10).trans rfl; have hcz6_11 : w3.cell? ⟨gb104, 11, none⟩ = some (.string (⟨#[]⟩ : ByteArray)) := (blk_cell BK104.out 11).trans rfl; have hfz6_0 := blk_frozen BK104.out 0; have hfz6_1 := blk_frozen BK104.out 1; have hfz6_2 := blk_frozen BK104.out 2; have hfz6_3 := blk_frozen BK104.out 3; have hfz6_4 := blk_frozen BK104.out 4; have hfz6_5 := blk_frozen BK104.out 5; have hfz6_6 := blk_frozen BK104.out 6; have hfz6_7 := blk_frozen BK104.out 7; have hfz6_8 := blk_frozen BK104.out 8; have hfz6_9 := blk_frozen BK104.out 9; have hfz6_10 := blk_frozen BK104.out 10; have hfz6_11 := blk_frozen BK104.out 11))
  refine bodyPost_ret (results_cell_row rfl _ _ gb104 50 #[.int .i64 2, .string a0_0, .string a0_1, .string a0_2, .int .i64 0, .string (⟨#[]⟩ : ByteArray), .string (⟨#[]⟩ : ByteArray), .string (⟨#[]⟩ : ByteArray), .string (⟨#[]⟩ : ByteArray), .string (⟨#[]⟩ : ByteArray), .int .i64 0, .string (⟨#[]⟩ : ByteArray)] (0, 0) _ rfl (by (with_reducible repeat (first | refine blk_drewN ?_ _ | refine blk_drew ?_ | refine blk_alloc ?_ _)); refine blk_put (cs := #[.int .i64 2, .string a0_0, .string a0_1, .string a0_2, .int .i64 0, .string (⟨#[]⟩ : ByteArray), .string (⟨#[]⟩ : ByteArray), .string (⟨#[]⟩ : ByteArray), .string (⟨#[]⟩ : ByteArray), .string (⟨#[]⟩ : ByteArray), .int .i64 0, .string (⟨#[]⟩ : ByteArray)]) ?_ 11 _ rfl; (with_reducible repeat (first | refine blk_drewN ?_ _ | refine blk_drew ?_ | refine blk_alloc ?_ _)); refine blk_put (cs := #[.int .i64 2, .string a0_0, .string a0_1, .string a0_2, .int .i64 0, .string (⟨#[]⟩ : ByteArray), .string (⟨#[]⟩ : ByteArray), .string (⟨#[]⟩ : ByteArray), .string (⟨#[]⟩ : ByteArray), .string (⟨#[]⟩ : ByteArray), .int .i64 0, .string (⟨#[]⟩ : ByteArray)]) ?_ 10 _ rfl; (with_reducible repeat (first | refine blk_drewN ?_ _ | refine blk_drew ?_ | refine blk_alloc ?_ _)); refine blk_put (cs := #[.int .i64 2, .string a0_0, .string a0_1, .string a0_2, .int .i64 0, .string (⟨#[]⟩ : ByteArray), .string (⟨#[]⟩ : ByteArray), .string (⟨#[]⟩ : ByteArray), .string (⟨#[]⟩ : ByteArray), .string (⟨#[]⟩ : ByteArray), .int .i64 0, .string (⟨#[]⟩ : ByteArray)]) ?_ 9 _ rfl; (with_reducible repeat (first | refine blk_drewN ?_ _ | refine blk_drew ?_ | refine blk_alloc ?_ _)); refine blk_put (cs := #[.int .i64 2, .string a0_0, .string a0_1, .string a0_2, .int .i64 0, .string (⟨#[]⟩ : ByteArray), .string (⟨#[]⟩ : ByteArray), .string (⟨#[]⟩ : ByteArray), .string (⟨#[]⟩ : ByteArray), .string (⟨#[]⟩ : ByteArray), .int .i64 0, .string (⟨#[]⟩ : ByteArray)]) ?_ 8 _ rfl; (with_reducible repeat (first | refine blk_drewN ?_ _ | refine blk_drew ?_ | refine blk_alloc ?_ _)); refine blk_put (cs := #[.int .i64 2, .string a0_0, .string a0_1, .string a0_2, .int .i64 0, .string (⟨#[]⟩ : ByteArray), .string (⟨#[]⟩ : ByteArray), .string (⟨#[]⟩ : ByteArray), .string (⟨#[]⟩ : ByteArray), .string (⟨#[]⟩ : ByteArray), .int .i64 0, .string (⟨#[]⟩ : ByteArray)]) ?_ 7 _ rfl; (with_reducible repeat (first | refine blk_drewN ?_ _ | refine blk_drew ?_ | refine blk_alloc ?_ _)); refine blk_put (cs := #[.int .i64 2, .string a0_0, .string a0_1, .string a0_2, .int .i64 0, .string (⟨#[]⟩ : ByteArray), .string (⟨#[]⟩ : ByteArray), .string (⟨#[]⟩ : ByteArray), .string (⟨#[]⟩ : ByteArray), .string (⟨#[]⟩ : ByteArray), .int .i64 0, .string (⟨#[]⟩ : ByteArray)]) ?_ 6 _ rfl; (with_reducible repeat (first | refine blk_drewN ?_ _ | refine blk_drew ?_ | refine blk_alloc ?_ _)); refine blk_put (cs := #[.int .i64 2, .string a0_0, .string a0_1, .string a0_2, .int .i64 0, .string (⟨#[]⟩ : ByteArray), .string (⟨#[]⟩ : ByteArray), .string (⟨#[]⟩ : ByteArray), .string (⟨#[]⟩ : ByteArray), .string (⟨#[]⟩ : ByteArray), .int .i64 0, .string (⟨#[]⟩ : ByteArray)]) ?_ 5 _ rfl; (with_reducible repeat (first | refine blk_drewN ?_ _ | refine blk_drew ?_ | refine blk_alloc ?_ _)); refine blk_put (cs := #[.int .i64 2, .string a0_0, .string a0_1, .string a0_2, .int .i64 0, .string (⟨#[]⟩ : ByteArray), .string (⟨#[]⟩ : ByteArray), .string (⟨#[]⟩ : ByteArray), .string (⟨#[]⟩ : ByteArray), .string (⟨#[]⟩ : ByteArray), .int .i64 0, .string (⟨#[]⟩ : ByteArray)]) ?_ 4 _ rfl; (with_reducible repeat (first | refine blk_drewN ?_ _ | refine blk_drew ?_ | refine blk_alloc ?_ _)); refine blk_put (cs := #[.int .i64 2, .string a0_0, .string a0_1, .string (⟨#[]⟩ : ByteArray), .int .i64 0, .string (⟨#[]⟩ : ByteArray), .string (⟨#[]⟩ : ByteArray), .string (⟨#[]⟩ : ByteArray), .string (⟨#[]⟩ : ByteArray), .string (⟨#[]⟩ : ByteArray), .int .i64 0, .string (⟨#[]⟩ : ByteArray)]) ?_ 3 _ rfl; (with_reducible repeat (first | refine blk_drewN ?_ _ | refine blk_drew ?_ | refine blk_alloc ?_ _)); refine blk_put (cs := #[.int .i64 2, .string a0_0, .string (⟨#[]⟩ : ByteArray), .string (⟨#[]⟩ : ByteArray), .int .i64 0, .string (⟨#[]⟩ : ByteArray), .string (⟨#[]⟩ : ByteArray), .string (⟨#[]⟩ : ByteArray), .string (⟨#[]⟩ : ByteArray), .string (⟨#[]⟩ : ByteArray), .int .i64 0, .string (⟨#[]⟩ : ByteArray)]) ?_ 2 _ rfl; (with_reducible repeat (first | refine blk_drewN ?_ _ | refine blk_drew ?_ | refine blk_alloc ?_ _)); refine blk_put (cs := #[.int .i64 2, .string (⟨#[]⟩ : ByteArray), .string (⟨#[]⟩ : ByteArray), .string (⟨#[]⟩ : ByteArray), .int .i64 0, .string (⟨#[]⟩ : ByteArray), .string (⟨#[]⟩ : ByteArray), .string (⟨#[]⟩ : ByteArray), .string (⟨#[]⟩ : ByteArray), .string (⟨#[]⟩ : ByteArray), .int .i64 0, .string (⟨#[]⟩ : ByteArray)]) ?_ 1 _ rfl; (with_reducible repeat (first | refine blk_drewN ?_ _ | refine blk_drew ?_ | refine blk_alloc ?_ _)); refine blk_put (cs := #[.int .i64 0, .string (⟨#[]⟩ : ByteArray), .string (⟨#[]⟩ : ByteArray), .string (⟨#[]⟩ : ByteArray), .int .i64 0, .string (⟨#[]⟩ : ByteArray), .string (⟨#[]⟩ : ByteArray), .string (⟨#[]⟩ : ByteArray), .string (⟨#[]⟩ : ByteArray), .string (⟨#[]⟩ : ByteArray), .int .i64 0, .string (⟨#[]⟩ : ByteArray)]) ?_ 0 _ rfl; (with_reducible repeat (first | refine blk_drewN ?_ _ | refine blk_drew ?_ | refine blk_alloc ?_ _)); exact BK104.out) Try.underlying50 rfl (by kernel_rfl)) rfl ?_
  exact ⟨by first | rfl | (simp [errW_none, errW_some] <;> rfl) | (simp [*, errW_none, errW_some] <;> rfl), by repeat (first | (with_reducible first | exact HB.out | apply below_alloc | apply pw_below_drewN | apply below_drew1 | refine below_set ?_ GE103.out | refine below_set ?_ GE104.out) | exact HB.out)⟩
def gen_Static.f (a0_0 : ByteArray) (a0_1 : ByteArray) : Option (Int × ByteArray × ByteArray × ByteArray × Int × ByteArray × ByteArray × ByteArray × ByteArray × ByteArray × Int × ByteArray) := some (3, (⟨#[]⟩ : ByteArray), (⟨#[]⟩ : ByteArray), (⟨#[]⟩ : ByteArray), 0, a0_0, a0_1, (⟨#[]⟩ : ByteArray), (⟨#[]⟩ : ByteArray), (⟨#[]⟩ : ByteArray), 0, (⟨#[]⟩ : ByteArray))
set_option maxHeartbeats 8000000 in
set_option maxRecDepth 100000 in
theorem gen_Static.calls (a0_0 : ByteArray) (a0_1 : ByteArray) (r1 : Int) (r2 : ByteArray) (r3 : ByteArray) (r4 : ByteArray) (r5 : Int) (r6 : ByteArray) (r7 : ByteArray) (r8 : ByteArray) (r9 : ByteArray) (r10 : ByteArray) (r11 : Int) (r12 : ByteArray) (w : World) (h : gen_Static.f a0_0 a0_1 = some (r1, r2, r3, r4, r5, r6, r7, r8, r9, r10, r11, r12)) :
    Calls Try.prog 17 #[.agg #[.string a0_0, .string a0_1]] w fun e w' => e = .returned (.agg #[.int .i64 r1, .string r2, .string r3, .string r4, .int .i64 r5, .string r6, .string r7, .string r8, .string r9, .string r10, .int .i64 r11, .string r12]) ∧ Below w.heap.size w w' := by
  have hu44 := Try.underlying44
  have hu50 := Try.underlying50
  have HB := Aside0.mk (Below.refl w.heap.size w)
  have H : (some (3, (⟨#[]⟩ : ByteArray), (⟨#[]⟩ : ByteArray), (⟨#[]⟩ : ByteArray), 0, a0_0, a0_1, (⟨#[]⟩ : ByteArray), (⟨#[]⟩ : ByteArray), (⟨#[]⟩ : ByteArray), 0, (⟨#[]⟩ : ByteArray))) = some (r1, r2, r3, r4, r5, r6, r7, r8, r9, r10, r11, r12) := h
  clear h
  simp only [Option.some.injEq, Prod.mk.injEq] at H
  obtain ⟨rfl, rfl, rfl, rfl, rfl, rfl, rfl, rfl, rfl, rfl, rfl, rfl⟩ := H
  go_enter Try.func17, Try.ntmps17
  go_wp2_with (first | ((with_reducible refine gate_dst (N := 1) rfl ?_); refine box_event ?hg (N := 1) ?hd (cs := #[.string a0_0, .string a0_1]) (t := 44) ?hr ?_; (case hd => rfl); (case hg => rfl); (case hr => first | (go_simp; done) | (go_simp; rfl)); intro gb105 hg w2 hbox hb; have n0_ := Aside0.mk (below_step (by repeat (first | (with_reducible first | exact HB.out | apply below_alloc | apply pw_below_drewN | apply below_drew1) | exact HB.out)) hb); have n1_ := Aside0.mk (hbox); have n2_ := Aside0.mk ((by rw [hg]; exact (below_size (by repeat (first | (with_reducible first | exact HB.out | apply below_alloc | apply pw_below_drewN | apply below_drew1) | exact HB.out))) : w.heap.size ≤ gb105)); have n3_ := Aside0.mk ((by rw [hg]; exact (below_size (by repeat (first | (with_reducible first | exact HB.out | apply below_alloc | apply pw_below_drewN | apply below_drew1) | exact HB.out))) : w.heap.size ≤ gb105)); clear HB; have HB := n0_; have BK105 := n1_; have GW105 := n2_; have GE105 := n3_; clear n0_ n1_ n2_ n3_; clear hb hbox hg) | ((with_reducible refine gate_dst (N := 2) rfl ?_); refine box_event ?hg (N := 2) ?hd (cs := #[.int .i64 0, .string (⟨#[]⟩ : ByteArray), .string (⟨#[]⟩ : ByteArray), .string (⟨#[]⟩ : ByteArray), .int .i64 0, .string (⟨#[]⟩ : ByteArray), .string (⟨#[]⟩ : ByteArray), .string (⟨#[]⟩ : ByteArray), .string (⟨#[]⟩ : ByteArray), .string (⟨#[]⟩ : ByteArray), .int .i64 0, .string (⟨#[]⟩ : ByteArray)]) (t := 50) ?hr ?_; (case hd => rfl); (case hg => rfl); (case hr => first | (go_simp; done) | (go_simp; rfl)); intro gb106 hg w3 hbox hb; have n0_ := Aside0.mk (blk_below (g := gb105) (o := .cells #[.string a0_0, .string a0_1] 44 (0, 0)) (by (with_reducible repeat (first | refine blk_drewN ?_ _ | refine blk_drew ?_ | refine blk_alloc ?_ _)); exact BK105.out) hb); have n1_ := Aside0.mk (below_step (by repeat (first | (with_reducible first | exact HB.out | apply below_alloc | apply pw_below_drewN | apply below_drew1 | refine below_set ?_ GE105.out) | exact HB.out)) hb); have n2_ := Aside0.mk (hbox); have n3_ := Aside0.mk ((by rw [hg]; exact (below_size (by repeat (first | (with_reducible first | exact HB.out | apply below_alloc | apply pw_below_drewN | apply below_drew1 | refine below_set ?_ GE105.out) | exact HB.out))) : w.heap.size ≤ gb106)); have n4_ := Aside0.mk ((by rw [hg]; exact (below_size (by repeat (first | (with_reducible first | exact HB.out | apply below_alloc | apply pw_below_drewN | apply below_drew1 | refine below_set ?_ GE105.out) | exact HB.out))) : w.heap.size ≤ gb106)); have n5_ := Aside0.mk ((by rw [hg]; exact Nat.ne_of_lt (blk_lt (g := gb105) (o := .cells #[.string a0_0, .string a0_1] 44 (0, 0)) (by (with_reducible repeat (first | refine blk_drewN ?_ _ | refine blk_drew ?_ | refine blk_alloc ?_ _)); exact BK105.out)) : gb105 ≠ gb106)); have n6_ := Aside0.mk ((by rw [hg]; exact Nat.ne_of_gt (blk_lt (g := gb105) (o := .cells #[.string a0_0, .string a0_1] 44 (0, 0)) (by (with_reducible repeat (first | refine blk_drewN ?_ _ | refine blk_drew ?_ | refine blk_alloc ?_ _)); exact BK105.out)) : gb106 ≠ gb105)); clear BK105; clear HB; have BK105 := n0_; have HB := n1_; have BK106 := n2_; have GW106 := n3_; have GE106 := n4_; have NB105_106 := n5_; have NB106_105 := n6_; clear n0_ n1_ n2_ n3_ n4_ n5_ n6_; clear hb hbox hg; have hnb4 := NB105_106.out; have hnc4 := NB106_105.out; have hcz5_0 : w3.cell? ⟨gb105, 0, none⟩ = some (.string a0_0) := (blk_cell BK105.out 0).trans rfl; have hcz5_1 : w3.cell? ⟨gb105, 1, none⟩ = some (.string a0_1) := (blk_cell BK105.out 1).trans rfl; have hfz5_0 := blk_frozen BK105.out 0; have hfz5_1 := blk_frozen BK105.out 1; have hcz6_0 : w3.cell? ⟨gb106, 0, none⟩ = some (.int .i64 0) := (blk_cell BK106.out 0).trans rfl; have hcz6_1 : w3.cell? ⟨gb106, 1, none⟩ = some (.string (⟨#[]⟩ : ByteArray)) := (blk_cell BK106.out 1).trans rfl; have hcz6_2 : w3.cell? ⟨gb106, 2, none⟩ = some (.string (⟨#[]⟩ : ByteArray)) := (blk_cell BK106.out 2).trans rfl; have hcz6_3 : w3.cell? ⟨gb106, 3, none⟩ = some (.string (⟨#[]⟩ : ByteArray)) := (blk_cell BK106.out 3).trans rfl; have hcz6_4 : w3.cell? ⟨gb106, 4, none⟩ = some (.int .i64 0) := (blk_cell BK106.out 4).trans rfl; have hcz6_5 : w3.cell? ⟨gb106, 5, none⟩ = some (.string (⟨#[]⟩ : ByteArray)) := (blk_cell BK106.out 5).trans rfl; have hcz6_6 : w3.cell? ⟨gb106, 6, none⟩ = some (.string (⟨#[]⟩ : ByteArray)) := (blk_cell BK106.out 6).trans rfl; have hcz6_7 : w3.cell? ⟨gb106, 7, none⟩ = some (.string (⟨#[]⟩ : ByteArray)) := (blk_cell BK106.out 7).trans rfl; have hcz6_8 : w3.cell? ⟨gb106, 8, none⟩ = some (.string (⟨#[]⟩ : ByteArray)) := (blk_cell BK106.out 8).trans rfl; have hcz6_9 : w3.cell? ⟨gb106, 9, none⟩ = some (.string (⟨#[]⟩ : ByteArray)) := (blk_cell BK106.out 9).trans rfl; have hcz6_10 : w3.cell? ⟨gb106, 10, none⟩ = some (.int .i64 0) := (blk_cell BK106.out 10).trans rfl; have hcz6_11 : w3.cell? ⟨gb106, 11, none⟩ = some (.string (⟨#[]⟩ : ByteArray)) := (blk_cell BK106.out 11).trans rfl; have hfz6_0 := blk_frozen BK106.out 0; have hfz6_1 := blk_frozen BK106.out 1; have hfz6_2 := blk_frozen BK106.out 2; have hfz6_3 := blk_frozen BK106.out 3; have hfz6_4 := blk_frozen BK106.out 4; have hfz6_5 := blk_frozen BK106.out 5; have hfz6_6 := blk_frozen BK106.out 6; have hfz6_7 := blk_frozen BK106.out 7; have hfz6_8 := blk_frozen BK106.out 8; have hfz6_9 := blk_frozen BK106.out 9; have hfz6_10 := blk_frozen BK106.out 10; have hfz6_11 := blk_frozen BK106.out 11))
  refine bodyPost_ret (results_cell_row rfl _ _ gb106 50 #[.int .i64 3, .string (⟨#[]⟩ : ByteArray), .string (⟨#[]⟩ : ByteArray), .string (⟨#[]⟩ : ByteArray), .int .i64 0, .string a0_0, .string a0_1, .string (⟨#[]⟩ : ByteArray), .string (⟨#[]⟩ : ByteArray), .string (⟨#[]⟩ : ByteArray), .int .i64 0, .string (⟨#[]⟩ : ByteArray)] (0, 0) _ rfl (by (with_reducible repeat (first | refine blk_drewN ?_ _ | refine blk_drew ?_ | refine blk_alloc ?_ _)); refine blk_put (cs := #[.int .i64 3, .string (⟨#[]⟩ : ByteArray), .string (⟨#[]⟩ : ByteArray), .string (⟨#[]⟩ : ByteArray), .int .i64 0, .string a0_0, .string a0_1, .string (⟨#[]⟩ : ByteArray), .string (⟨#[]⟩ : ByteArray), .string (⟨#[]⟩ : ByteArray), .int .i64 0, .string (⟨#[]⟩ : ByteArray)]) ?_ 11 _ rfl; (with_reducible repeat (first | refine blk_drewN ?_ _ | refine blk_drew ?_ | refine blk_alloc ?_ _)); refine blk_put (cs := #[.int .i64 3, .string (⟨#[]⟩ : ByteArray), .string (⟨#[]⟩ : ByteArray), .string (⟨#[]⟩ : ByteArray), .int .i64 0, .string a0_0, .string a0_1, .string (⟨#[]⟩ : ByteArray), .string (⟨#[]⟩ : ByteArray), .string (⟨#[]⟩ : ByteArray), .int .i64 0, .string (⟨#[]⟩ : ByteArray)]) ?_ 10 _ rfl; (with_reducible repeat (first | refine blk_drewN ?_ _ | refine blk_drew ?_ | refine blk_alloc ?_ _)); refine blk_put (cs := #[.int .i64 3, .string (⟨#[]⟩ : ByteArray), .string (⟨#[]⟩ : ByteArray), .string (⟨#[]⟩ : ByteArray), .int .i64 0, .string a0_0, .string a0_1, .string (⟨#[]⟩ : ByteArray), .string (⟨#[]⟩ : ByteArray), .string (⟨#[]⟩ : ByteArray), .int .i64 0, .string (⟨#[]⟩ : ByteArray)]) ?_ 9 _ rfl; (with_reducible repeat (first | refine blk_drewN ?_ _ | refine blk_drew ?_ | refine blk_alloc ?_ _)); refine blk_put (cs := #[.int .i64 3, .string (⟨#[]⟩ : ByteArray), .string (⟨#[]⟩ : ByteArray), .string (⟨#[]⟩ : ByteArray), .int .i64 0, .string a0_0, .string a0_1, .string (⟨#[]⟩ : ByteArray), .string (⟨#[]⟩ : ByteArray), .string (⟨#[]⟩ : ByteArray), .int .i64 0, .string (⟨#[]⟩ : ByteArray)]) ?_ 8 _ rfl; (with_reducible repeat (first | refine blk_drewN ?_ _ | refine blk_drew ?_ | refine blk_alloc ?_ _)); refine blk_put (cs := #[.int .i64 3, .string (⟨#[]⟩ : ByteArray), .string (⟨#[]⟩ : ByteArray), .string (⟨#[]⟩ : ByteArray), .int .i64 0, .string a0_0, .string a0_1, .string (⟨#[]⟩ : ByteArray), .string (⟨#[]⟩ : ByteArray), .string (⟨#[]⟩ : ByteArray), .int .i64 0, .string (⟨#[]⟩ : ByteArray)]) ?_ 7 _ rfl; (with_reducible repeat (first | refine blk_drewN ?_ _ | refine blk_drew ?_ | refine blk_alloc ?_ _)); refine blk_put (cs := #[.int .i64 3, .string (⟨#[]⟩ : ByteArray), .string (⟨#[]⟩ : ByteArray), .string (⟨#[]⟩ : ByteArray), .int .i64 0, .string a0_0, .string (⟨#[]⟩ : ByteArray), .string (⟨#[]⟩ : ByteArray), .string (⟨#[]⟩ : ByteArray), .string (⟨#[]⟩ : ByteArray), .int .i64 0, .string (⟨#[]⟩ : ByteArray)]) ?_ 6 _ rfl; (with_reducible repeat (first | refine blk_drewN ?_ _ | refine blk_drew ?_ | refine blk_alloc ?_ _)); refine blk_put (cs := #[.int .i64 3, .string (⟨#[]⟩ : ByteArray), .string (⟨#[]⟩ : ByteArray), .string (⟨#[]⟩ : ByteArray), .int .i64 0, .string (⟨#[]⟩ : ByteArray), .string (⟨#[]⟩ : ByteArray), .string (⟨#[]⟩ : ByteArray), .string (⟨#[]⟩ : ByteArray), .string (⟨#[]⟩ : ByteArray), .int .i64 0, .string (⟨#[]⟩ : ByteArray)]) ?_ 5 _ rfl; (with_reducible repeat (first | refine blk_drewN ?_ _ | refine blk_drew ?_ | refine blk_alloc ?_ _)); refine blk_put (cs := #[.int .i64 3, .string (⟨#[]⟩ : ByteArray), .string (⟨#[]⟩ : ByteArray), .string (⟨#[]⟩ : ByteArray), .int .i64 0, .string (⟨#[]⟩ : ByteArray), .string (⟨#[]⟩ : ByteArray), .string (⟨#[]⟩ : ByteArray), .string (⟨#[]⟩ : ByteArray), .string (⟨#[]⟩ : ByteArray), .int .i64 0, .string (⟨#[]⟩ : ByteArray)]) ?_ 4 _ rfl; (with_reducible repeat (first | refine blk_drewN ?_ _ | refine blk_drew ?_ | refine blk_alloc ?_ _)); refine blk_put (cs := #[.int .i64 3, .string (⟨#[]⟩ : ByteArray), .string (⟨#[]⟩ : ByteArray), .string (⟨#[]⟩ : ByteArray), .int .i64 0, .string (⟨#[]⟩ : ByteArray), .string (⟨#[]⟩ : ByteArray), .string (⟨#[]⟩ : ByteArray), .string (⟨#[]⟩ : ByteArray), .string (⟨#[]⟩ : ByteArray), .int .i64 0, .string (⟨#[]⟩ : ByteArray)]) ?_ 3 _ rfl; (with_reducible repeat (first | refine blk_drewN ?_ _ | refine blk_drew ?_ | refine blk_alloc ?_ _)); refine blk_put (cs := #[.int .i64 3, .string (⟨#[]⟩ : ByteArray), .string (⟨#[]⟩ : ByteArray), .string (⟨#[]⟩ : ByteArray), .int .i64 0, .string (⟨#[]⟩ : ByteArray), .string (⟨#[]⟩ : ByteArray), .string (⟨#[]⟩ : ByteArray), .string (⟨#[]⟩ : ByteArray), .string (⟨#[]⟩ : ByteArray), .int .i64 0, .string (⟨#[]⟩ : ByteArray)]) ?_ 2 _ rfl; (with_reducible repeat (first | refine blk_drewN ?_ _ | refine blk_drew ?_ | refine blk_alloc ?_ _)); refine blk_put (cs := #[.int .i64 3, .string (⟨#[]⟩ : ByteArray), .string (⟨#[]⟩ : ByteArray), .string (⟨#[]⟩ : ByteArray), .int .i64 0, .string (⟨#[]⟩ : ByteArray), .string (⟨#[]⟩ : ByteArray), .string (⟨#[]⟩ : ByteArray), .string (⟨#[]⟩ : ByteArray), .string (⟨#[]⟩ : ByteArray), .int .i64 0, .string (⟨#[]⟩ : ByteArray)]) ?_ 1 _ rfl; (with_reducible repeat (first | refine blk_drewN ?_ _ | refine blk_drew ?_ | refine blk_alloc ?_ _)); refine blk_put (cs := #[.int .i64 0, .string (⟨#[]⟩ : ByteArray), .string (⟨#[]⟩ : ByteArray), .string (⟨#[]⟩ : ByteArray), .int .i64 0, .string (⟨#[]⟩ : ByteArray), .string (⟨#[]⟩ : ByteArray), .string (⟨#[]⟩ : ByteArray), .string (⟨#[]⟩ : ByteArray), .string (⟨#[]⟩ : ByteArray), .int .i64 0, .string (⟨#[]⟩ : ByteArray)]) ?_ 0 _ rfl; (with_reducible repeat (first | refine blk_drewN ?_ _ | refine blk_drew ?_ | refine blk_alloc ?_ _)); exact BK106.out) Try.underlying50 rfl (by kernel_rfl)) rfl ?_
  exact ⟨by first | rfl | (simp [errW_none, errW_some] <;> rfl) | (simp [*, errW_none, errW_some] <;> rfl), by repeat (first | (with_reducible first | exact HB.out | apply below_alloc | apply pw_below_drewN | apply below_drew1 | refine below_set ?_ GE105.out | refine below_set ?_ GE106.out) | exact HB.out)⟩
def gen_Field.f (a0_0 : ByteArray) (a0_1 : ByteArray) (a0_2 : ByteArray) (a0_3 : Int) (a0_4 : ByteArray) (a1_0 : ByteArray) (a1_1 : ByteArray) : Option (Int × ByteArray × ByteArray × ByteArray × Int × ByteArray × ByteArray × ByteArray × ByteArray × ByteArray × Int × ByteArray) := some (4, (⟨#[]⟩ : ByteArray), (⟨#[]⟩ : ByteArray), (⟨#[]⟩ : ByteArray), 0, a1_0, a1_1, a0_0, a0_1, a0_2, a0_3, a0_4)
set_option maxHeartbeats 8000000 in
set_option maxRecDepth 100000 in
theorem gen_Field.calls (a0_0 : ByteArray) (a0_1 : ByteArray) (a0_2 : ByteArray) (a0_3 : Int) (a0_4 : ByteArray) (a1_0 : ByteArray) (a1_1 : ByteArray) (r1 : Int) (r2 : ByteArray) (r3 : ByteArray) (r4 : ByteArray) (r5 : Int) (r6 : ByteArray) (r7 : ByteArray) (r8 : ByteArray) (r9 : ByteArray) (r10 : ByteArray) (r11 : Int) (r12 : ByteArray) (w : World) (h : gen_Field.f a0_0 a0_1 a0_2 a0_3 a0_4 a1_0 a1_1 = some (r1, r2, r3, r4, r5, r6, r7, r8, r9, r10, r11, r12)) :
    Calls Try.prog 19 #[.agg #[.string a0_0, .string a0_1, .string a0_2, .int .i64 a0_3, .string a0_4], .agg #[.string a1_0, .string a1_1]] w fun e w' => e = .returned (.agg #[.int .i64 r1, .string r2, .string r3, .string r4, .int .i64 r5, .string r6, .string r7, .string r8, .string r9, .string r10, .int .i64 r11, .string r12]) ∧ Below w.heap.size w w' := by
  have hu46 := Try.underlying46
  have hu44 := Try.underlying44
  have hu50 := Try.underlying50
  have HB := Aside0.mk (Below.refl w.heap.size w)
  have H : (some (4, (⟨#[]⟩ : ByteArray), (⟨#[]⟩ : ByteArray), (⟨#[]⟩ : ByteArray), 0, a1_0, a1_1, a0_0, a0_1, a0_2, a0_3, a0_4)) = some (r1, r2, r3, r4, r5, r6, r7, r8, r9, r10, r11, r12) := h
  clear h
  simp only [Option.some.injEq, Prod.mk.injEq] at H
  obtain ⟨rfl, rfl, rfl, rfl, rfl, rfl, rfl, rfl, rfl, rfl, rfl, rfl⟩ := H
  go_enter Try.func19, Try.ntmps19
  go_wp2_with (first | ((with_reducible refine gate_dst (N := 2) rfl ?_); refine box_event ?hg (N := 2) ?hd (cs := #[.string a0_0, .string a0_1, .string a0_2, .int .i64 a0_3, .string a0_4]) (t := 46) ?hr ?_; (case hd => rfl); (case hg => rfl); (case hr => first | (go_simp; done) | (go_simp; rfl)); intro gb107 hg w3 hbox hb; have n0_ := Aside0.mk (below_step (by repeat (first | (with_reducible first | exact HB.out | apply below_alloc | apply pw_below_drewN | apply below_drew1) | exact HB.out)) hb); have n1_ := Aside0.mk (hbox); have n2_ := Aside0.mk ((by rw [hg]; exact (below_size (by repeat (first | (with_reducible first | exact HB.out | apply below_alloc | apply pw_below_drewN | apply below_drew1) | exact HB.out))) : w.heap.size ≤ gb107)); have n3_ := Aside0.mk ((by rw [hg]; exact (below_size (by repeat (first | (with_reducible first | exact HB.out | apply below_alloc | apply pw_below_drewN | apply below_drew1) | exact HB.out))) : w.heap.size ≤ gb107)); clear HB; have HB := n0_; have BK107 := n1_; have GW107 := n2_; have GE107 := n3_; clear n0_ n1_ n2_ n3_; clear hb hbox hg) | ((with_reducible refine gate_dst (N := 3) rfl ?_); refine box_event ?hg (N := 3) ?hd (cs := #[.string a1_0, .string a1_1]) (t := 44) ?hr ?_; (case hd => rfl); (case hg => rfl); (case hr => first | (go_simp; done) | (go_simp; rfl)); intro gb108 hg w4 hbox hb; have n0_ := Aside0.mk (blk_below (g := gb107) (o := .cells #[.string a0_0, .string a0_1, .string a0_2, .int .i64 a0_3, .string a0_4] 46 (0, 0)) (by (with_reducible repeat (first | refine blk_drewN ?_ _ | refine blk_drew ?_ | refine blk_alloc ?_ _)); exact BK107.out) hb); have n1_ := Aside0.mk (below_step (by repeat (first | (with_reducible first | exact HB.out | apply below_alloc | apply pw_below_drewN | apply below_drew1 | refine below_set ?_ GE107.out) | exact HB.out)) hb); have n2_ := Aside0.mk (hbox); have n3_ := Aside0.mk ((by rw [hg]; exact (below_size (by repeat (first | (with_reducible first | exact HB.out | apply below_alloc | apply pw_below_drewN | apply below_drew1 | refine below_set ?_ GE107.out) | exact HB.out))) : w.heap.size ≤ gb108)); have n4_ := Aside0.mk ((by rw [hg]; exact (below_size (by repeat (first | (with_reducible first | exact HB.out | apply below_alloc | apply pw_below_drewN | apply below_drew1 | refine below_set ?_ GE107.out) | exact HB.out))) : w.heap.size ≤ gb108)); have n5_ := Aside0.mk ((by rw [hg]; exact Nat.ne_of_lt (blk_lt (g := gb107) (o := .cells #[.string a0_0, .string a0_1, .string a0_2, .int .i64 a0_3, .string a0_4] 46 (0, 0)) (by (with_reducible repeat (first | refine blk_drewN ?_ _ | refine blk_drew ?_ | refine blk_alloc ?_ _)); exact BK107.out)) : gb107 ≠ gb108)); have n6_ := Aside0.mk ((by rw [hg]; exact Nat.ne_of_gt (blk_lt (g := gb107) (o := .cells #[.string a0_0, .string a0_1, .string a0_2, .int .i64 a0_3, .string a0_4] 46 (0, 0)) (by (with_reducible repeat (first | refine blk_drewN ?_ _ | refine blk_drew ?_ | refine blk_alloc ?_ _)); exact BK107.out)) : gb108 ≠ gb107)); clear BK107; clear HB; have BK107 := n0_; have HB := n1_; have BK108 := n2_; have GW108 := n3_; have GE108 := n4_; have NB107_108 := n5_; have NB108_107 := n6_; clear n0_ n1_ n2_ n3_ n4_ n5_ n6_; clear hb hbox hg) | ((with_reducible refine gate_dst (N := 4) rfl ?_); refine box_event ?hg (N := 4) ?hd (cs := #[.int .i64 0, .string (⟨#[]⟩ : ByteArray), .string (⟨#[]⟩ : ByteArray), .string (⟨#[]⟩ : ByteArray), .int .i64 0, .string (⟨#[]⟩ : ByteArray), .string (⟨#[]⟩ : ByteArray), .string (⟨#[]⟩ : ByteArray), .string (⟨#[]⟩ : ByteArray), .string (⟨#[]⟩ : ByteArray), .int .i64 0, .string (⟨#[]⟩ : ByteArray)]) (t := 50) ?hr ?_; (case hd => rfl); (case hg => rfl); (case hr => first | (go_simp; done) | (go_simp; rfl)); intro gb109 hg w5 hbox hb; have n0_ := Aside0.mk (blk_below (g := gb107) (o := .cells #[.string a0_0, .string a0_1, .string a0_2, .int .i64 a0_3, .string a0_4] 46 (0, 0)) (by (with_reducible repeat (first | refine blk_drewN ?_ _ | refine blk_drew ?_ | refine blk_alloc ?_ _)); exact BK107.out) hb); have n1_ := Aside0.mk (blk_below (g := gb108) (o := .cells #[.string a1_0, .string a1_1] 44 (0, 0)) (by (with_reducible repeat (first | refine blk_drewN ?_ _ | refine blk_drew ?_ | refine blk_alloc ?_ _)); exact BK108.out) hb); have n2_ := Aside0.mk (below_step (by repeat (first | (with_reducible first | exact HB.out | apply below_alloc | apply pw_below_drewN | apply below_drew1 | refine below_set ?_ GE107.out | refine below_set ?_ GE108.out) | exact HB.out)) hb); have n3_ := Aside0.mk (hbox); have n4_ := Aside0.mk ((by rw [hg]; exact (below_size (by repeat (first | (with_reducible first | exact HB.out | apply below_alloc | apply pw_below_drewN | apply below_drew1 | refine below_set ?_ GE107.out | refine below_set ?_ GE108.out) | exact HB.out))) : w.heap.size ≤ gb109)); have n5_ := Aside0.mk ((by rw [hg]; exact (below_size (by repeat (first | (with_reducible first | exact HB.out | apply below_alloc | apply pw_below_drewN | apply below_drew1 | refine below_set ?_ GE107.out | refine below_set ?_ GE108.out) | exact HB.out))) : w.heap.size ≤ gb109)); have n6_ := Aside0.mk ((by rw [hg]; exact Nat.ne_of_lt (blk_lt (g := gb107) (o := .cells #[.string a0_0, .string a0_1, .string a0_2, .int .i64 a0_3, .string a0_4] 46 (0, 0)) (by (with_reducible repeat (first | refine blk_drewN ?_ _ | refine blk_drew ?_ | refine blk_alloc ?_ _)); exact BK107.out)) : gb107 ≠ gb109)); have n7_ := Aside0.mk ((by rw [hg]; exact Nat.ne_of_gt (blk_lt (g := gb107) (o := .cells #[.string a0_0, .string a0_1, .string a0_2, .int .i64 a0_3, .string a0_4] 46 (0, 0)) (by (with_reducible repeat (first | refine blk_drewN ?_ _ | refine blk_drew ?_ | refine blk_alloc ?_ _)); exact BK107.out)) : gb109 ≠ gb107)); have n8_ := Aside0.mk ((by rw [hg]; exact Nat.ne_of_lt (blk_lt (g := gb108) (o := .cells #[.string a1_0, .string a1_1] 44 (0, 0)) (by (with_reducible repeat (first | refine blk_drewN ?_ _ | refine blk_drew ?_ | refine blk_alloc ?_ _)); exact BK108.out)) : gb108 ≠ gb109)); have n9_ := Aside0.mk ((by rw [hg]; exact Nat.ne_of_gt (blk_lt (g := gb108) (o := .cells #[.string a1_0, .string a1_1] 44 (0, 0)) (by (with_reducible repeat (first | refine blk_drewN ?_ _ | refine blk_drew ?_ | refine blk_alloc ?_ _)); exact BK108.out)) : gb109 ≠ gb108)); clear BK107; clear BK108; clear HB; have BK107 := n0_; have BK108 := n1_; have HB := n2_; have BK109 := n3_; have GW109 := n4_; have GE109 := n5_; have NB107_109 := n6_; have NB109_107 := n7_; have NB108_109 := n8_; have NB109_108 := n9_; clear n0_ n1_ n2_ n3_ n4_ n5_ n6_ n7_ n8_ n9_; clear hb hbox hg; have hnb6 := NB108_107.out; have hnc6 := NB107_108.out; have hnb7 := NB108_109.out; have hnc7 := NB109_108.out; have hcz8_0 : w5.cell? ⟨gb108, 0, none⟩ = some (.string a1_0) := (blk_cell BK108.out 0).trans rfl; have hcz8_1 : w5.cell? ⟨gb108, 1, none⟩ = some (.string a1_1) := (blk_cell BK108.out 1).trans rfl; have hfz8_0 := blk_frozen BK108.out 0; have hfz8_1 := blk_frozen BK108.out 1; have hnb9 := NB107_109.out; have hnc9 := NB109_107.out; have hcz10_0 : w5.cell? ⟨gb107, 0, none⟩ = some (.string a0_0) := (blk_cell BK107.out 0).trans rfl; have hcz10_1 : w5.cell? ⟨gb107, 1, none⟩ = some (.string a0_1) := (blk_cell BK107.out 1).trans rfl; have hcz10_2 : w5.cell? ⟨gb107, 2, none⟩ = some (.string a0_2) := (blk_cell BK107.out 2).trans rfl; have hcz10_3 : w5.cell? ⟨gb107, 3, none⟩ = some (.int .i64 a0_3) := (blk_cell BK107.out 3).trans rfl; have hcz10_4 : w5.cell? ⟨gb107, 4, none⟩ = some (.string a0_4) := (blk_cell BK107.out 4).trans rfl; have hfz10_0 := blk_frozen BK107.out 0; have hfz10_1 := blk_frozen BK107.out 1; have hfz10_2 := blk_frozen BK107.out 2; have hfz10_3 := blk_frozen BK107.out 3; have hfz10_4 := blk_frozen BK107.out 4; have hcz11_0 : w5.cell? ⟨gb109, 0, none⟩ = some (.int .i64 0) := (blk_cell BK109.out 0).trans rfl; have hcz11_1 : w5.cell? ⟨gb109, 1, none⟩ = some (.string (⟨#[]⟩ : ByteArray)) := (blk_cell BK109.out 1).trans rfl; have hcz11_2 : w5.cell? ⟨gb109, 2, none⟩ = some (.string (⟨#[]⟩ : ByteArray)) := (blk_cell BK109.out 2).trans rfl; have hcz11_3 : w5.cell? ⟨gb109, 3, none⟩ = some (.string (⟨#[]⟩ : ByteArray)) := (blk_cell BK109.out 3).trans rfl; have hcz11_4 : w5.cell? ⟨gb109, 4, none⟩ = some (.int .i64 0) := (blk_cell BK109.out 4).trans rfl; have hcz11_5 : w5.cell? ⟨gb109, 5, none⟩ = some (.string (⟨#[]⟩ : ByteArray)) := (blk_cell BK109.out 5).trans rfl; have hcz11_6 : w5.cell? ⟨gb109, 6, none⟩ = some (.string (⟨#[]⟩ : ByteArray)) := (blk_cell BK109.out 6).trans rfl; have hcz11_7 : w5.cell? ⟨gb109, 7, none⟩ = some (.string (⟨#[]⟩ : ByteArray)) := (blk_cell BK109.out 7).trans rfl; have hcz11_8 : w5.cell? ⟨gb109, 8, none⟩ = some (.string (⟨#[]⟩ : ByteArray)) := (blk_cell BK109.out 8).trans rfl; have hcz11_9 : w5.cell? ⟨gb109, 9, none⟩ = some (.string (⟨#[]⟩ : ByteArray)) := (blk_cell BK109.out 9).trans rfl; have hcz11_10 : w5.cell? ⟨gb109, 10, none⟩ = some (.int .i64 0) := (blk_cell BK109.out 10).trans rfl; have hcz11_11 : w5.cell? ⟨gb109, 11, none⟩ = some (.string (⟨#[]⟩ : ByteArray)) := (blk_cell BK109.out 11).trans rfl; have hfz11_0 := blk_frozen BK109.out 0; have hfz11_1 := blk_frozen BK109.out 1; have hfz11_2 := blk_frozen BK109.out 2; have hfz11_3 := blk_frozen BK109.out 3; have hfz11_4 := blk_frozen BK109.out 4; have hfz11_5 := blk_frozen BK109.out 5; have hfz11_6 := blk_frozen BK109.out 6; have hfz11_7 := blk_frozen BK109.out 7; have hfz11_8 := blk_frozen BK109.out 8; have hfz11_9 := blk_frozen BK109.out 9; have hfz11_10 := blk_frozen BK109.out 10; have hfz11_11 := blk_frozen BK109.out 11))
  refine bodyPost_ret (results_cell_row rfl _ _ gb109 50 #[.int .i64 4, .string (⟨#[]⟩ : ByteArray), .string (⟨#[]⟩ : ByteArray), .string (⟨#[]⟩ : ByteArray), .int .i64 0, .string a1_0, .string a1_1, .string a0_0, .string a0_1, .string a0_2, .int .i64 a0_3, .string a0_4] (0, 0) _ rfl (by (with_reducible repeat (first | refine blk_drewN ?_ _ | refine blk_drew ?_ | refine blk_alloc ?_ _)); refine blk_put (cs := #[.int .i64 4, .string (⟨#[]⟩ : ByteArray), .string (⟨#[]⟩ : ByteArray), .string (⟨#[]⟩ : ByteArray), .int .i64 0, .string a1_0, .string a1_1, .string a0_0, .string a0_1, .string a0_2, .int .i64 a0_3, .string (⟨#[]⟩ : ByteArray)]) ?_ 11 _ rfl; (with_reducible repeat (first | refine blk_drewN ?_ _ | refine blk_drew ?_ | refine blk_alloc ?_ _)); refine blk_put (cs := #[.int .i64 4, .string (⟨#[]⟩ : ByteArray), .string (⟨#[]⟩ : ByteArray), .string (⟨#[]⟩ : ByteArray), .int .i64 0, .string a1_0, .string a1_1, .string a0_0, .string a0_1, .string a0_2, .int .i64 0, .string (⟨#[]⟩ : ByteArray)]) ?_ 10 _ rfl; (with_reducible repeat (first | refine blk_drewN ?_ _ | refine blk_drew ?_ | refine blk_alloc ?_ _)); refine blk_put (cs := #[.int .i64 4, .string (⟨#[]⟩ : ByteArray), .string (⟨#[]⟩ : ByteArray), .string (⟨#[]⟩ : ByteArray), .int .i64 0, .string a1_0, .string a1_1, .string a0_0, .string a0_1, .string (⟨#[]⟩ : ByteArray), .int .i64 0, .string (⟨#[]⟩ : ByteArray)]) ?_ 9 _ rfl; (with_reducible repeat (first | refine blk_drewN ?_ _ | refine blk_drew ?_ | refine blk_alloc ?_ _)); refine blk_put (cs := #[.int .i64 4, .string (⟨#[]⟩ : ByteArray), .string (⟨#[]⟩ : ByteArray), .string (⟨#[]⟩ : ByteArray), .int .i64 0, .string a1_0, .string a1_1, .string a0_0, .string (⟨#[]⟩ : ByteArray), .string (⟨#[]⟩ : ByteArray), .int .i64 0, .string (⟨#[]⟩ : ByteArray)]) ?_ 8 _ rfl; (with_reducible repeat (first | refine blk_drewN ?_ _ | refine blk_drew ?_ | refine blk_alloc ?_ _)); refine blk_put (cs := #[.int .i64 4, .string (⟨#[]⟩ : ByteArray), .string (⟨#[]⟩ : ByteArray), .string (⟨#[]⟩ : ByteArray), .int .i64 0, .string a1_0, .string a1_1, .string (⟨#[]⟩ : ByteArray), .string (⟨#[]⟩ : ByteArray), .string (⟨#[]⟩ : ByteArray), .int .i64 0, .string (⟨#[]⟩ : ByteArray)]) ?_ 7 _ rfl; (with_reducible repeat (first | refine blk_drewN ?_ _ | refine blk_drew ?_ | refine blk_alloc ?_ _)); refine blk_put (cs := #[.int .i64 4, .string (⟨#[]⟩ : ByteArray), .string (⟨#[]⟩ : ByteArray), .string (⟨#[]⟩ : ByteArray), .int .i64 0, .string a1_0, .string (⟨#[]⟩ : ByteArray), .string (⟨#[]⟩ : ByteArray), .string (⟨#[]⟩ : ByteArray), .string (⟨#[]⟩ : ByteArray), .int .i64 0, .string (⟨#[]⟩ : ByteArray)]) ?_ 6 _ rfl; (with_reducible repeat (first | refine blk_drewN ?_ _ | refine blk_drew ?_ | refine blk_alloc ?_ _)); refine blk_put (cs := #[.int .i64 4, .string (⟨#[]⟩ : ByteArray), .string (⟨#[]⟩ : ByteArray), .string (⟨#[]⟩ : ByteArray), .int .i64 0, .string (⟨#[]⟩ : ByteArray), .string (⟨#[]⟩ : ByteArray), .string (⟨#[]⟩ : ByteArray), .string (⟨#[]⟩ : ByteArray), .string (⟨#[]⟩ : ByteArray), .int .i64 0, .string (⟨#[]⟩ : ByteArray)]) ?_ 5 _ rfl; (with_reducible repeat (first | refine blk_drewN ?_ _ | refine blk_drew ?_ | refine blk_alloc ?_ _)); refine blk_put (cs := #[.int .i64 4, .string (⟨#[]⟩ : ByteArray), .string (⟨#[]⟩ : ByteArray), .string (⟨#[]⟩ : ByteArray), .int .i64 0, .string (⟨#[]⟩ : ByteArray), .string (⟨#[]⟩ : ByteArray), .string (⟨#[]⟩ : ByteArray), .string (⟨#[]⟩ : ByteArray), .string (⟨#[]⟩ : ByteArray), .int .i64 0, .string (⟨#[]⟩ : ByteArray)]) ?_ 4 _ rfl; (with_reducible repeat (first | refine blk_drewN ?_ _ | refine blk_drew ?_ | refine blk_alloc ?_ _)); refine blk_put (cs := #[.int .i64 4, .string (⟨#[]⟩ : ByteArray), .string (⟨#[]⟩ : ByteArray), .string (⟨#[]⟩ : ByteArray), .int .i64 0, .string (⟨#[]⟩ : ByteArray), .string (⟨#[]⟩ : ByteArray), .string (⟨#[]⟩ : ByteArray), .string (⟨#[]⟩ : ByteArray), .string (⟨#[]⟩ : ByteArray), .int .i64 0, .string (⟨#[]⟩ : ByteArray)]) ?_ 3 _ rfl; (with_reducible repeat (first | refine blk_drewN ?_ _ | refine blk_drew ?_ | refine blk_alloc ?_ _)); refine blk_put (cs := #[.int .i64 4, .string (⟨#[]⟩ : ByteArray), .string (⟨#[]⟩ : ByteArray), .string (⟨#[]⟩ : ByteArray), .int .i64 0, .string (⟨#[]⟩ : ByteArray), .string (⟨#[]⟩ : ByteArray), .string (⟨#[]⟩ : ByteArray), .string (⟨#[]⟩ : ByteArray), .string (⟨#[]⟩ : ByteArray), .int .i64 0, .string (⟨#[]⟩ : ByteArray)]) ?_ 2 _ rfl; (with_reducible repeat (first | refine blk_drewN ?_ _ | refine blk_drew ?_ | refine blk_alloc ?_ _)); refine blk_put (cs := #[.int .i64 4, .string (⟨#[]⟩ : ByteArray), .string (⟨#[]⟩ : ByteArray), .string (⟨#[]⟩ : ByteArray), .int .i64 0, .string (⟨#[]⟩ : ByteArray), .string (⟨#[]⟩ : ByteArray), .string (⟨#[]⟩ : ByteArray), .string (⟨#[]⟩ : ByteArray), .string (⟨#[]⟩ : ByteArray), .int .i64 0, .string (⟨#[]⟩ : ByteArray)]) ?_ 1 _ rfl; (with_reducible repeat (first | refine blk_drewN ?_ _ | refine blk_drew ?_ | refine blk_alloc ?_ _)); refine blk_put (cs := #[.int .i64 0, .string (⟨#[]⟩ : ByteArray), .string (⟨#[]⟩ : ByteArray), .string (⟨#[]⟩ : ByteArray), .int .i64 0, .string (⟨#[]⟩ : ByteArray), .string (⟨#[]⟩ : ByteArray), .string (⟨#[]⟩ : ByteArray), .string (⟨#[]⟩ : ByteArray), .string (⟨#[]⟩ : ByteArray), .int .i64 0, .string (⟨#[]⟩ : ByteArray)]) ?_ 0 _ rfl; (with_reducible repeat (first | refine blk_drewN ?_ _ | refine blk_drew ?_ | refine blk_alloc ?_ _)); exact BK109.out) Try.underlying50 rfl (by kernel_rfl)) rfl ?_
  exact ⟨by first | rfl | (simp [errW_none, errW_some] <;> rfl) | (simp [*, errW_none, errW_some] <;> rfl), by repeat (first | (with_reducible first | exact HB.out | apply below_alloc | apply pw_below_drewN | apply below_drew1 | refine below_set ?_ GE107.out | refine below_set ?_ GE108.out | refine below_set ?_ GE109.out) | exact HB.out)⟩
def gen_Element.f (a0_0 : ByteArray) (a0_1 : ByteArray) (a0_2 : ByteArray) (a0_3 : Int) (a0_4 : ByteArray) : Option (Int × ByteArray × ByteArray × ByteArray × Int × ByteArray × ByteArray × ByteArray × ByteArray × ByteArray × Int × ByteArray) := some (5, (⟨#[]⟩ : ByteArray), (⟨#[]⟩ : ByteArray), (⟨#[]⟩ : ByteArray), 0, (⟨#[]⟩ : ByteArray), (⟨#[]⟩ : ByteArray), a0_0, a0_1, a0_2, a0_3, a0_4)
set_option maxHeartbeats 8000000 in
set_option maxRecDepth 100000 in
theorem gen_Element.calls (a0_0 : ByteArray) (a0_1 : ByteArray) (a0_2 : ByteArray) (a0_3 : Int) (a0_4 : ByteArray) (r1 : Int) (r2 : ByteArray) (r3 : ByteArray) (r4 : ByteArray) (r5 : Int) (r6 : ByteArray) (r7 : ByteArray) (r8 : ByteArray) (r9 : ByteArray) (r10 : ByteArray) (r11 : Int) (r12 : ByteArray) (w : World) (h : gen_Element.f a0_0 a0_1 a0_2 a0_3 a0_4 = some (r1, r2, r3, r4, r5, r6, r7, r8, r9, r10, r11, r12)) :
    Calls Try.prog 21 #[.agg #[.string a0_0, .string a0_1, .string a0_2, .int .i64 a0_3, .string a0_4]] w fun e w' => e = .returned (.agg #[.int .i64 r1, .string r2, .string r3, .string r4, .int .i64 r5, .string r6, .string r7, .string r8, .string r9, .string r10, .int .i64 r11, .string r12]) ∧ Below w.heap.size w w' := by
  have hu46 := Try.underlying46
  have hu50 := Try.underlying50
  have HB := Aside0.mk (Below.refl w.heap.size w)
  have H : (some (5, (⟨#[]⟩ : ByteArray), (⟨#[]⟩ : ByteArray), (⟨#[]⟩ : ByteArray), 0, (⟨#[]⟩ : ByteArray), (⟨#[]⟩ : ByteArray), a0_0, a0_1, a0_2, a0_3, a0_4)) = some (r1, r2, r3, r4, r5, r6, r7, r8, r9, r10, r11, r12) := h
  clear h
  simp only [Option.some.injEq, Prod.mk.injEq] at H
  obtain ⟨rfl, rfl, rfl, rfl, rfl, rfl, rfl, rfl, rfl, rfl, rfl, rfl⟩ := H
  go_enter Try.func21, Try.ntmps21
  go_wp2_with (first | ((with_reducible refine gate_dst (N := 1) rfl ?_); refine box_event ?hg (N := 1) ?hd (cs := #[.string a0_0, .string a0_1, .string a0_2, .int .i64 a0_3, .string a0_4]) (t := 46) ?hr ?_; (case hd => rfl); (case hg => rfl); (case hr => first | (go_simp; done) | (go_simp; rfl)); intro gb110 hg w2 hbox hb; have n0_ := Aside0.mk (below_step (by repeat (first | (with_reducible first | exact HB.out | apply below_alloc | apply pw_below_drewN | apply below_drew1) | exact HB.out)) hb); have n1_ := Aside0.mk (hbox); have n2_ := Aside0.mk ((by rw [hg]; exact (below_size (by repeat (first | (with_reducible first | exact HB.out | apply below_alloc | apply pw_below_drewN | apply below_drew1) | exact HB.out))) : w.heap.size ≤ gb110)); have n3_ := Aside0.mk ((by rw [hg]; exact (below_size (by repeat (first | (with_reducible first | exact HB.out | apply below_alloc | apply pw_below_drewN | apply below_drew1) | exact HB.out))) : w.heap.size ≤ gb110)); clear HB; have HB := n0_; have BK110 := n1_; have GW110 := n2_; have GE110 := n3_; clear n0_ n1_ n2_ n3_; clear hb hbox hg) | ((with_reducible refine gate_dst (N := 2) rfl ?_); refine box_event ?hg (N := 2) ?hd (cs := #[.int .i64 0, .string (⟨#[]⟩ : ByteArray), .string (⟨#[]⟩ : ByteArray), .string (⟨#[]⟩ : ByteArray), .int .i64 0, .string (⟨#[]⟩ : ByteArray), .string (⟨#[]⟩ : ByteArray), .string (⟨#[]⟩ : ByteArray), .string (⟨#[]⟩ : ByteArray), .string (⟨#[]⟩ : ByteArray), .int .i64 0, .string (⟨#[]⟩ : ByteArray)]) (t := 50) ?hr ?_; (case hd => rfl); (case hg => rfl); (case hr => first | (go_simp; done) | (go_simp; rfl)); intro gb111 hg w3 hbox hb; have n0_ := Aside0.mk (blk_below (g := gb110) (o := .cells #[.string a0_0, .string a0_1, .string a0_2, .int .i64 a0_3, .string a0_4] 46 (0, 0)) (by (with_reducible repeat (first | refine blk_drewN ?_ _ | refine blk_drew ?_ | refine blk_alloc ?_ _)); exact BK110.out) hb); have n1_ := Aside0.mk (below_step (by repeat (first | (with_reducible first | exact HB.out | apply below_alloc | apply pw_below_drewN | apply below_drew1 | refine below_set ?_ GE110.out) | exact HB.out)) hb); have n2_ := Aside0.mk (hbox); have n3_ := Aside0.mk ((by rw [hg]; exact (below_size (by repeat (first | (with_reducible first | exact HB.out | apply below_alloc | apply pw_below_drewN | apply below_drew1 | refine below_set ?_ GE110.out) | exact HB.out))) : w.heap.size ≤ gb111)); have n4_ := Aside0.mk ((by rw [hg]; exact (below_size (by repeat (first | (with_reducible first | exact HB.out | apply below_alloc | apply pw_below_drewN | apply below_drew1 | refine below_set ?_ GE110.out) | exact HB.out))) : w.heap.size ≤ gb111)); have n5_ := Aside0.mk ((by rw [hg]; exact Nat.ne_of_lt (blk_lt (g := gb110) (o := .cells #[.string a0_0, .string a0_1, .string a0_2, .int .i64 a0_3, .string a0_4] 46 (0, 0)) (by (with_reducible repeat (first | refine blk_drewN ?_ _ | refine blk_drew ?_ | refine blk_alloc ?_ _)); exact BK110.out)) : gb110 ≠ gb111)); have n6_ := Aside0.mk ((by rw [hg]; exact Nat.ne_of_gt (blk_lt (g := gb110) (o := .cells #[.string a0_0, .string a0_1, .string a0_2, .int .i64 a0_3, .string a0_4] 46 (0, 0)) (by (with_reducible repeat (first | refine blk_drewN ?_ _ | refine blk_drew ?_ | refine blk_alloc ?_ _)); exact BK110.out)) : gb111 ≠ gb110)); clear BK110; clear HB; have BK110 := n0_; have HB := n1_; have BK111 := n2_; have GW111 := n3_; have GE111 := n4_; have NB110_111 := n5_; have NB111_110 := n6_; clear n0_ n1_ n2_ n3_ n4_ n5_ n6_; clear hb hbox hg; have hnb4 := NB110_111.out; have hnc4 := NB111_110.out; have hcz5_0 : w3.cell? ⟨gb110, 0, none⟩ = some (.string a0_0) := (blk_cell BK110.out 0).trans rfl; have hcz5_1 : w3.cell? ⟨gb110, 1, none⟩ = some (.string a0_1) := (blk_cell BK110.out 1).trans rfl; have hcz5_2 : w3.cell? ⟨gb110, 2, none⟩ = some (.string a0_2) := (blk_cell BK110.out 2).trans rfl; have hcz5_3 : w3.cell? ⟨gb110, 3, none⟩ = some (.int .i64 a0_3) := (blk_cell BK110.out 3).trans rfl; have hcz5_4 : w3.cell? ⟨gb110, 4, none⟩ = some (.string a0_4) := (blk_cell BK110.out 4).trans rfl; have hfz5_0 := blk_frozen BK110.out 0; have hfz5_1 := blk_frozen BK110.out 1; have hfz5_2 := blk_frozen BK110.out 2; have hfz5_3 := blk_frozen BK110.out 3; have hfz5_4 := blk_frozen BK110.out 4; have hcz6_0 : w3.cell? ⟨gb111, 0, none⟩ = some (.int .i64 0) := (blk_cell BK111.out 0).trans rfl; have hcz6_1 : w3.cell? ⟨gb111, 1, none⟩ = some (.string (⟨#[]⟩ : ByteArray)) := (blk_cell BK111.out 1).trans rfl; have hcz6_2 : w3.cell? ⟨gb111, 2, none⟩ = some (.string (⟨#[]⟩ : ByteArray)) := (blk_cell BK111.out 2).trans rfl; have hcz6_3 : w3.cell? ⟨gb111, 3, none⟩ = some (.string (⟨#[]⟩ : ByteArray)) := (blk_cell BK111.out 3).trans rfl; have hcz6_4 : w3.cell? ⟨gb111, 4, none⟩ = some (.int .i64 0) := (blk_cell BK111.out 4).trans rfl; have hcz6_5 : w3.cell? ⟨gb111, 5, none⟩ = some (.string (⟨#[]⟩ : ByteArray)) := (blk_cell BK111.out 5).trans rfl; have hcz6_6 : w3.cell? ⟨gb111, 6, none⟩ = some (.string (⟨#[]⟩ : ByteArray)) := (blk_cell BK111.out 6).trans rfl; have hcz6_7 : w3.cell? ⟨gb111, 7, none⟩ = some (.string (⟨#[]⟩ : ByteArray)) := (blk_cell BK111.out 7).trans rfl; have hcz6_8 : w3.cell? ⟨gb111, 8, none⟩ = some (.string (⟨#[]⟩ : ByteArray)) := (blk_cell BK111.out 8).trans rfl; have hcz6_9 : w3.cell? ⟨gb111, 9, none⟩ = some (.string (⟨#[]⟩ : ByteArray)) := (blk_cell BK111.out 9).trans rfl; have hcz6_10 : w3.cell? ⟨gb111, 10, none⟩ = some (.int .i64 0) := (blk_cell BK111.out 10).trans rfl; have hcz6_11 : w3.cell? ⟨gb111, 11, none⟩ = some (.string (⟨#[]⟩ : ByteArray)) := (blk_cell BK111.out 11).trans rfl; have hfz6_0 := blk_frozen BK111.out 0; have hfz6_1 := blk_frozen BK111.out 1; have hfz6_2 := blk_frozen BK111.out 2; have hfz6_3 := blk_frozen BK111.out 3; have hfz6_4 := blk_frozen BK111.out 4; have hfz6_5 := blk_frozen BK111.out 5; have hfz6_6 := blk_frozen BK111.out 6; have hfz6_7 := blk_frozen BK111.out 7; have hfz6_8 := blk_frozen BK111.out 8; have hfz6_9 := blk_frozen BK111.out 9; have hfz6_10 := blk_frozen BK111.out 10; have hfz6_11 := blk_frozen BK111.out 11))
  refine bodyPost_ret (results_cell_row rfl _ _ gb111 50 #[.int .i64 5, .string (⟨#[]⟩ : ByteArray), .string (⟨#[]⟩ : ByteArray), .string (⟨#[]⟩ : ByteArray), .int .i64 0, .string (⟨#[]⟩ : ByteArray), .string (⟨#[]⟩ : ByteArray), .string a0_0, .string a0_1, .string a0_2, .int .i64 a0_3, .string a0_4] (0, 0) _ rfl (by (with_reducible repeat (first | refine blk_drewN ?_ _ | refine blk_drew ?_ | refine blk_alloc ?_ _)); refine blk_put (cs := #[.int .i64 5, .string (⟨#[]⟩ : ByteArray), .string (⟨#[]⟩ : ByteArray), .string (⟨#[]⟩ : ByteArray), .int .i64 0, .string (⟨#[]⟩ : ByteArray), .string (⟨#[]⟩ : ByteArray), .string a0_0, .string a0_1, .string a0_2, .int .i64 a0_3, .string (⟨#[]⟩ : ByteArray)]) ?_ 11 _ rfl; (with_reducible repeat (first | refine blk_drewN ?_ _ | refine blk_drew ?_ | refine blk_alloc ?_ _)); refine blk_put (cs := #[.int .i64 5, .string (⟨#[]⟩ : ByteArray), .string (⟨#[]⟩ : ByteArray), .string (⟨#[]⟩ : ByteArray), .int .i64 0, .string (⟨#[]⟩ : ByteArray), .string (⟨#[]⟩ : ByteArray), .string a0_0, .string a0_1, .string a0_2, .int .i64 0, .string (⟨#[]⟩ : ByteArray)]) ?_ 10 _ rfl; (with_reducible repeat (first | refine blk_drewN ?_ _ | refine blk_drew ?_ | refine blk_alloc ?_ _)); refine blk_put (cs := #[.int .i64 5, .string (⟨#[]⟩ : ByteArray), .string (⟨#[]⟩ : ByteArray), .string (⟨#[]⟩ : ByteArray), .int .i64 0, .string (⟨#[]⟩ : ByteArray), .string (⟨#[]⟩ : ByteArray), .string a0_0, .string a0_1, .string (⟨#[]⟩ : ByteArray), .int .i64 0, .string (⟨#[]⟩ : ByteArray)]) ?_ 9 _ rfl; (with_reducible repeat (first | refine blk_drewN ?_ _ | refine blk_drew ?_ | refine blk_alloc ?_ _)); refine blk_put (cs := #[.int .i64 5, .string (⟨#[]⟩ : ByteArray), .string (⟨#[]⟩ : ByteArray), .string (⟨#[]⟩ : ByteArray), .int .i64 0, .string (⟨#[]⟩ : ByteArray), .string (⟨#[]⟩ : ByteArray), .string a0_0, .string (⟨#[]⟩ : ByteArray), .string (⟨#[]⟩ : ByteArray), .int .i64 0, .string (⟨#[]⟩ : ByteArray)]) ?_ 8 _ rfl; (with_reducible repeat (first | refine blk_drewN ?_ _ | refine blk_drew ?_ | refine blk_alloc ?_ _)); refine blk_put (cs := #[.int .i64 5, .string (⟨#[]⟩ : ByteArray), .string (⟨#[]⟩ : ByteArray), .string (⟨#[]⟩ : ByteArray), .int .i64 0, .string (⟨#[]⟩ : ByteArray), .string (⟨#[]⟩ : ByteArray), .string (⟨#[]⟩ : ByteArray), .string (⟨#[]⟩ : ByteArray), .string (⟨#[]⟩ : ByteArray), .int .i64 0, .string (⟨#[]⟩ : ByteArray)]) ?_ 7 _ rfl; (with_reducible repeat (first | refine blk_drewN ?_ _ | refine blk_drew ?_ | refine blk_alloc ?_ _)); refine blk_put (cs := #[.int .i64 5, .string (⟨#[]⟩ : ByteArray), .string (⟨#[]⟩ : ByteArray), .string (⟨#[]⟩ : ByteArray), .int .i64 0, .string (⟨#[]⟩ : ByteArray), .string (⟨#[]⟩ : ByteArray), .string (⟨#[]⟩ : ByteArray), .string (⟨#[]⟩ : ByteArray), .string (⟨#[]⟩ : ByteArray), .int .i64 0, .string (⟨#[]⟩ : ByteArray)]) ?_ 6 _ rfl; (with_reducible repeat (first | refine blk_drewN ?_ _ | refine blk_drew ?_ | refine blk_alloc ?_ _)); refine blk_put (cs := #[.int .i64 5, .string (⟨#[]⟩ : ByteArray), .string (⟨#[]⟩ : ByteArray), .string (⟨#[]⟩ : ByteArray), .int .i64 0, .string (⟨#[]⟩ : ByteArray), .string (⟨#[]⟩ : ByteArray), .string (⟨#[]⟩ : ByteArray), .string (⟨#[]⟩ : ByteArray), .string (⟨#[]⟩ : ByteArray), .int .i64 0, .string (⟨#[]⟩ : ByteArray)]) ?_ 5 _ rfl; (with_reducible repeat (first | refine blk_drewN ?_ _ | refine blk_drew ?_ | refine blk_alloc ?_ _)); refine blk_put (cs := #[.int .i64 5, .string (⟨#[]⟩ : ByteArray), .string (⟨#[]⟩ : ByteArray), .string (⟨#[]⟩ : ByteArray), .int .i64 0, .string (⟨#[]⟩ : ByteArray), .string (⟨#[]⟩ : ByteArray), .string (⟨#[]⟩ : ByteArray), .string (⟨#[]⟩ : ByteArray), .string (⟨#[]⟩ : ByteArray), .int .i64 0, .string (⟨#[]⟩ : ByteArray)]) ?_ 4 _ rfl; (with_reducible repeat (first | refine blk_drewN ?_ _ | refine blk_drew ?_ | refine blk_alloc ?_ _)); refine blk_put (cs := #[.int .i64 5, .string (⟨#[]⟩ : ByteArray), .string (⟨#[]⟩ : ByteArray), .string (⟨#[]⟩ : ByteArray), .int .i64 0, .string (⟨#[]⟩ : ByteArray), .string (⟨#[]⟩ : ByteArray), .string (⟨#[]⟩ : ByteArray), .string (⟨#[]⟩ : ByteArray), .string (⟨#[]⟩ : ByteArray), .int .i64 0, .string (⟨#[]⟩ : ByteArray)]) ?_ 3 _ rfl; (with_reducible repeat (first | refine blk_drewN ?_ _ | refine blk_drew ?_ | refine blk_alloc ?_ _)); refine blk_put (cs := #[.int .i64 5, .string (⟨#[]⟩ : ByteArray), .string (⟨#[]⟩ : ByteArray), .string (⟨#[]⟩ : ByteArray), .int .i64 0, .string (⟨#[]⟩ : ByteArray), .string (⟨#[]⟩ : ByteArray), .string (⟨#[]⟩ : ByteArray), .string (⟨#[]⟩ : ByteArray), .string (⟨#[]⟩ : ByteArray), .int .i64 0, .string (⟨#[]⟩ : ByteArray)]) ?_ 2 _ rfl; (with_reducible repeat (first | refine blk_drewN ?_ _ | refine blk_drew ?_ | refine blk_alloc ?_ _)); refine blk_put (cs := #[.int .i64 5, .string (⟨#[]⟩ : ByteArray), .string (⟨#[]⟩ : ByteArray), .string (⟨#[]⟩ : ByteArray), .int .i64 0, .string (⟨#[]⟩ : ByteArray), .string (⟨#[]⟩ : ByteArray), .string (⟨#[]⟩ : ByteArray), .string (⟨#[]⟩ : ByteArray), .string (⟨#[]⟩ : ByteArray), .int .i64 0, .string (⟨#[]⟩ : ByteArray)]) ?_ 1 _ rfl; (with_reducible repeat (first | refine blk_drewN ?_ _ | refine blk_drew ?_ | refine blk_alloc ?_ _)); refine blk_put (cs := #[.int .i64 0, .string (⟨#[]⟩ : ByteArray), .string (⟨#[]⟩ : ByteArray), .string (⟨#[]⟩ : ByteArray), .int .i64 0, .string (⟨#[]⟩ : ByteArray), .string (⟨#[]⟩ : ByteArray), .string (⟨#[]⟩ : ByteArray), .string (⟨#[]⟩ : ByteArray), .string (⟨#[]⟩ : ByteArray), .int .i64 0, .string (⟨#[]⟩ : ByteArray)]) ?_ 0 _ rfl; (with_reducible repeat (first | refine blk_drewN ?_ _ | refine blk_drew ?_ | refine blk_alloc ?_ _)); exact BK111.out) Try.underlying50 rfl (by kernel_rfl)) rfl ?_
  exact ⟨by first | rfl | (simp [errW_none, errW_some] <;> rfl) | (simp [*, errW_none, errW_some] <;> rfl), by repeat (first | (with_reducible first | exact HB.out | apply below_alloc | apply pw_below_drewN | apply below_drew1 | refine below_set ?_ GE110.out | refine below_set ?_ GE111.out) | exact HB.out)⟩
end Go.Proofs.Ytfplcohjnlbfjaa.Q43
end

section
namespace Go.Proofs.Ytfplcohjnlbfjaa.Q43
open Go.RowKit Go.Proofs.YtfplcohjnlbfjaaW.PrintWords Go.Proofs.YtfplcohjnlbfjaaW.PrintLast Go.Proofs.YtfplcohjnlbfjaaW.PrintMore
attribute [local go_sem] max2_int min2_int max_two min_two max_three min_three max_four min_four   -- for this text's walks alone
set_option linter.unusedVariables false
set_option linter.unusedSimpArgs false
end Go.Proofs.Ytfplcohjnlbfjaa.Q43
end
