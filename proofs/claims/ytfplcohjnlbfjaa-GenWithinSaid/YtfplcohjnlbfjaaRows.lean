/-
  No cell of these rows narrows 'for every input' (looked for: loops, veiled, ifaces, maps, wideKeys, modest, calm, conditions, laid).
  DERIVED. THE GIVEN ROWS OF THIS SEAT. 5 by the template 'for every input the law returns true; each argument reads behind the call as it read before'; 0 by the template 'total and deterministic' (their statements: YtfplcohjnlbfjaaTotals.lean).
  GIVEN WITH THE SEED: the statements are not yours to turn. If you find one false, say at which input.
  Laid BY PROGRAM, IN A SANDBOX (cutbox-rows.mjs): the forced cells as the released guide's own fill.sh prints them over the translation d5946ce68e6912b5… (all of the seat's roots in one cut). By AI agents, Wed Nov 11 2026. No macro, syntax, notation, axiom, sorry.
-/
import Derived.Test.YtfplcohjnlbfjaaChecked
import GoSem.Claim
import GoSem.ClaimJoined
import GoSem.ClaimMapViews
import Derived.JoinedTies
import Derived.KernelRfl
namespace Go.Proofs.Ytfplcohjnlbfjaa
/- THE CELL 'sum', in the pinned program and in every row, IS THE sha256 OF THE DUMP (.gsa) THAT YtfplcohjnlbfjaaProg.lean LOADS. Nothing in Lean hashes anything: it is a label: what it is worth is what the hold of that sum in a sandbox is worth. -/
noncomputable def Try.pinned : Pinned := { name := "ytfplcohjnlbfjaa", sum := "d5946ce68e6912b597d9e8a8813f4b6ca76b4b05b68680ad9b7192011ab144c2", checked := Try.checked }
namespace Rows
def none {H : Type} : Left H := { results := [], args := [] }

/-- 'secateurtop.TopNearest': WHATEVER THE INPUT: true; the input reads as it did. -/
def topNearestSpec : ChangeSpec := { name := "topNearest", fn := fun _ => fun
  | [d1, d2] => { results := [.lit (.bool true)], args := [d1, d2] }
  | _ => none }
def topNearestRow : OpenClaim := { program := "ytfplcohjnlbfjaa", sum := "d5946ce68e6912b597d9e8a8813f4b6ca76b4b05b68680ad9b7192011ab144c2", func := "secateur/secateurtop.TopNearest", spec := "topNearest", unfollowed := true, recurses := true, apart := false }
def TopNearestSaid : Prop := topNearestRow.holds Try.pinned (OpenSpec.ofChange topNearestSpec)

/-- ITS FALSE NEIGHBOUR: 'it returns false'. Refute it at one input. -/
def topNearestWrong : ChangeSpec := { name := "topNearest", fn := fun _ => fun
  | [d1, d2] => { results := [.lit (.bool false)], args := [d1, d2] }
  | _ => none }
def TopNearestWrongFalsely : Prop := topNearestRow.holds Try.pinned (OpenSpec.ofChange topNearestWrong)

/-- 'secateurlaw25.GenPlaces': WHATEVER THE INPUT: true; the input reads as it did. -/
def genPlacesSpec : ChangeSpec := { name := "genPlaces", fn := fun _ => fun
  | [d1, d2, d3] => { results := [.lit (.bool true)], args := [d1, d2, d3] }
  | _ => none }
def genPlacesRow : OpenClaim := { program := "ytfplcohjnlbfjaa", sum := "d5946ce68e6912b597d9e8a8813f4b6ca76b4b05b68680ad9b7192011ab144c2", func := "secateur/secateurlaw25.GenPlaces", spec := "genPlaces", inPlace := ["internal/bytealg.IndexByteString", "internal/bytealg.IndexString"], unfollowed := true, recurses := true, named := ["internal/bytealg.MaxLen"], apart := false }
def GenPlacesSaid : Prop := genPlacesRow.holds Try.pinned (OpenSpec.ofChange genPlacesSpec)

/-- ITS FALSE NEIGHBOUR: 'it returns false'. Refute it at one input. -/
def genPlacesWrong : ChangeSpec := { name := "genPlaces", fn := fun _ => fun
  | [d1, d2, d3] => { results := [.lit (.bool false)], args := [d1, d2, d3] }
  | _ => none }
def GenPlacesWrongFalsely : Prop := genPlacesRow.holds Try.pinned (OpenSpec.ofChange genPlacesWrong)

/-- 'secateurlaw25.GenPass': WHATEVER THE INPUT: true; the input reads as it did. -/
def genPassSpec : ChangeSpec := { name := "genPass", fn := fun _ => fun
  | [d1, d2] => { results := [.lit (.bool true)], args := [d1, d2] }
  | _ => none }
def genPassRow : OpenClaim := { program := "ytfplcohjnlbfjaa", sum := "d5946ce68e6912b597d9e8a8813f4b6ca76b4b05b68680ad9b7192011ab144c2", func := "secateur/secateurlaw25.GenPass", spec := "genPass", inPlace := ["internal/bytealg.IndexByteString", "internal/bytealg.IndexString"], unfollowed := true, recurses := true, named := ["internal/bytealg.MaxLen"], apart := false }
def GenPassSaid : Prop := genPassRow.holds Try.pinned (OpenSpec.ofChange genPassSpec)

/-- ITS FALSE NEIGHBOUR: 'it returns false'. Refute it at one input. -/
def genPassWrong : ChangeSpec := { name := "genPass", fn := fun _ => fun
  | [d1, d2] => { results := [.lit (.bool false)], args := [d1, d2] }
  | _ => none }
def GenPassWrongFalsely : Prop := genPassRow.holds Try.pinned (OpenSpec.ofChange genPassWrong)

/-- 'secateurlaw25.GenWithin': WHATEVER THE INPUT: true; the input reads as it did. -/
def genWithinSpec : ChangeSpec := { name := "genWithin", fn := fun _ => fun
  | [d1, d2, d3] => { results := [.lit (.bool true)], args := [d1, d2, d3] }
  | _ => none }
def genWithinRow : OpenClaim := { program := "ytfplcohjnlbfjaa", sum := "d5946ce68e6912b597d9e8a8813f4b6ca76b4b05b68680ad9b7192011ab144c2", func := "secateur/secateurlaw25.GenWithin", spec := "genWithin", inPlace := ["internal/bytealg.IndexByteString", "internal/bytealg.IndexString"], unfollowed := true, recurses := true, named := ["internal/bytealg.MaxLen"], apart := false }
def GenWithinSaid : Prop := genWithinRow.holds Try.pinned (OpenSpec.ofChange genWithinSpec)

/-- ITS FALSE NEIGHBOUR: 'it returns false'. Refute it at one input. -/
def genWithinWrong : ChangeSpec := { name := "genWithin", fn := fun _ => fun
  | [d1, d2, d3] => { results := [.lit (.bool false)], args := [d1, d2, d3] }
  | _ => none }
def GenWithinWrongFalsely : Prop := genWithinRow.holds Try.pinned (OpenSpec.ofChange genWithinWrong)

/-- 'secateurlaw25.GenSets': WHATEVER THE INPUT: true; the input reads as it did. -/
def genSetsSpec : ChangeSpec := { name := "genSets", fn := fun _ => fun
  | [d1, d2, d3] => { results := [.lit (.bool true)], args := [d1, d2, d3] }
  | _ => none }
def genSetsRow : OpenClaim := { program := "ytfplcohjnlbfjaa", sum := "d5946ce68e6912b597d9e8a8813f4b6ca76b4b05b68680ad9b7192011ab144c2", func := "secateur/secateurlaw25.GenSets", spec := "genSets", inPlace := ["internal/bytealg.IndexByteString", "internal/bytealg.IndexString"], unfollowed := true, recurses := true, named := ["internal/bytealg.MaxLen"], apart := false }
def GenSetsSaid : Prop := genSetsRow.holds Try.pinned (OpenSpec.ofChange genSetsSpec)

/-- ITS FALSE NEIGHBOUR: 'it returns false'. Refute it at one input. -/
def genSetsWrong : ChangeSpec := { name := "genSets", fn := fun _ => fun
  | [d1, d2, d3] => { results := [.lit (.bool false)], args := [d1, d2, d3] }
  | _ => none }
def GenSetsWrongFalsely : Prop := genSetsRow.holds Try.pinned (OpenSpec.ofChange genSetsWrong)

/- THE SECOND FORM. 'bulk': how many values and letters a reading holds, each counted each time it is reached (what is shared counts as often as it is met; a slice's spare places count too). A statement '..UptoSaid' is the law's where the arguments, and the package variables that the reading takes, are together of bulk at most 1048576: NARROWER than '..Said'. Prove '..Said' where nothing that the law and all that it calls make is longer than what came in: it says more and counts as full. Else prove '..UptoSaid'. A law counts once. -/
mutual
def uptoBulk {H : Type} : DataW H → Nat
  | .lit (.string bytes) => bytes.length + 1
  | .lit _ => 1
  | .nil => 1
  | .ptr d => uptoBulk d + 1
  | .slice elems spare => uptoBulkAll elems + uptoBulkAll spare + 1
  | .agg parts => uptoBulkAll parts + 1
  | .iface _ d => uptoBulk d + 1
  | .map entries => uptoBulkEntries entries + 1
  | .held _ => 1
def uptoBulkAll {H : Type} : List (DataW H) → Nat
  | [] => 0
  | d :: r => uptoBulk d + uptoBulkAll r
def uptoBulkEntries {H : Type} : List (Lit × DataW H) → Nat
  | [] => 0
  | x :: r => uptoBulkEntry x + uptoBulkEntries r
def uptoBulkEntry {H : Type} : Lit × DataW H → Nat
  | (.string bytes, d) => bytes.length + uptoBulk d + 1
  | (_, d) => uptoBulk d + 1
 end
def uptoSmall : (H : Type) → List (DataW H) → Bool := fun _ ds => decide (uptoBulkAll ds ≤ 1048576)
def OpenSpec.upto (s : _root_.Go.ChangeSpec) : _root_.Go.OpenSpec := { _root_.Go.OpenSpec.ofChange s with cond := some uptoSmall }

/-- 'secateurtop.TopNearest', WHERE WHAT IT READS IS OF BULK AT MOST 1048576: true; the input reads as it did. -/
def topNearestUptoRow : OpenClaim := { program := "ytfplcohjnlbfjaa", sum := "d5946ce68e6912b597d9e8a8813f4b6ca76b4b05b68680ad9b7192011ab144c2", func := "secateur/secateurtop.TopNearest", spec := "topNearest", unfollowed := true, recurses := true, apart := false, narrowed := true }
def TopNearestUptoSaid : Prop := topNearestUptoRow.holds Try.pinned (OpenSpec.upto topNearestSpec)

/-- 'secateurlaw25.GenPlaces', WHERE WHAT IT READS IS OF BULK AT MOST 1048576: true; the input reads as it did. -/
def genPlacesUptoRow : OpenClaim := { program := "ytfplcohjnlbfjaa", sum := "d5946ce68e6912b597d9e8a8813f4b6ca76b4b05b68680ad9b7192011ab144c2", func := "secateur/secateurlaw25.GenPlaces", spec := "genPlaces", inPlace := ["internal/bytealg.IndexByteString", "internal/bytealg.IndexString"], unfollowed := true, recurses := true, named := ["internal/bytealg.MaxLen"], apart := false, narrowed := true }
def GenPlacesUptoSaid : Prop := genPlacesUptoRow.holds Try.pinned (OpenSpec.upto genPlacesSpec)

/-- 'secateurlaw25.GenPass', WHERE WHAT IT READS IS OF BULK AT MOST 1048576: true; the input reads as it did. -/
def genPassUptoRow : OpenClaim := { program := "ytfplcohjnlbfjaa", sum := "d5946ce68e6912b597d9e8a8813f4b6ca76b4b05b68680ad9b7192011ab144c2", func := "secateur/secateurlaw25.GenPass", spec := "genPass", inPlace := ["internal/bytealg.IndexByteString", "internal/bytealg.IndexString"], unfollowed := true, recurses := true, named := ["internal/bytealg.MaxLen"], apart := false, narrowed := true }
def GenPassUptoSaid : Prop := genPassUptoRow.holds Try.pinned (OpenSpec.upto genPassSpec)

/-- 'secateurlaw25.GenWithin', WHERE WHAT IT READS IS OF BULK AT MOST 1048576: true; the input reads as it did. -/
def genWithinUptoRow : OpenClaim := { program := "ytfplcohjnlbfjaa", sum := "d5946ce68e6912b597d9e8a8813f4b6ca76b4b05b68680ad9b7192011ab144c2", func := "secateur/secateurlaw25.GenWithin", spec := "genWithin", inPlace := ["internal/bytealg.IndexByteString", "internal/bytealg.IndexString"], unfollowed := true, recurses := true, named := ["internal/bytealg.MaxLen"], apart := false, narrowed := true }
def GenWithinUptoSaid : Prop := genWithinUptoRow.holds Try.pinned (OpenSpec.upto genWithinSpec)

/-- 'secateurlaw25.GenSets', WHERE WHAT IT READS IS OF BULK AT MOST 1048576: true; the input reads as it did. -/
def genSetsUptoRow : OpenClaim := { program := "ytfplcohjnlbfjaa", sum := "d5946ce68e6912b597d9e8a8813f4b6ca76b4b05b68680ad9b7192011ab144c2", func := "secateur/secateurlaw25.GenSets", spec := "genSets", inPlace := ["internal/bytealg.IndexByteString", "internal/bytealg.IndexString"], unfollowed := true, recurses := true, named := ["internal/bytealg.MaxLen"], apart := false, narrowed := true }
def GenSetsUptoSaid : Prop := genSetsUptoRow.holds Try.pinned (OpenSpec.upto genSetsSpec)

end Rows
end Go.Proofs.Ytfplcohjnlbfjaa
