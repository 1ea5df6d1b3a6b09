/-
  No cell of these rows narrows 'for every input' (looked for: loops, veiled, ifaces, maps, wideKeys, modest, calm, conditions, laid).
  DERIVED. THE GIVEN ROWS OF THIS SEAT. 5 by the template 'for every input the law returns true; each argument reads behind the call as it read before'; 0 by the template 'total and deterministic' (their statements: YtmdniighbddjnaaTotals.lean).
  GIVEN WITH THE SEED: the statements are not yours to turn. If you find one false, say at which input.
  Laid BY PROGRAM, IN A SANDBOX (cutbox-rows.mjs): the forced cells as the released guide's own fill.sh prints them over the translation 7af0af77b341d317… (all of the seat's roots in one cut). By AI agents, Wed Nov 11 2026. No macro, syntax, notation, axiom, sorry.
-/
import Derived.Test.YtmdniighbddjnaaChecked
import GoSem.Claim
import GoSem.ClaimJoined
import GoSem.ClaimMapViews
import Derived.JoinedTies
import Derived.KernelRfl
namespace Go.Proofs.Ytmdniighbddjnaa
/- THE CELL 'sum', in the pinned program and in every row, IS THE sha256 OF THE DUMP (.gsa) THAT YtmdniighbddjnaaProg.lean LOADS. Nothing in Lean hashes anything: it is a label: what it is worth is what the hold of that sum in a sandbox is worth. -/
noncomputable def Try.pinned : Pinned := { name := "ytmdniighbddjnaa", sum := "7af0af77b341d317b8ba7809ce49066f9de095e95b81fafacf0480c8b274074d", checked := Try.checked }
namespace Rows
def none {H : Type} : Left H := { results := [], args := [] }

/-- 'secateurlaw01.LebBytes': WHATEVER THE INPUT: true; the input reads as it did. -/
def lebBytesSpec : ChangeSpec := { name := "lebBytes", fn := fun _ => fun
  | [d1, d2, d3] => { results := [.lit (.bool true)], args := [d1, d2, d3] }
  | _ => none }
def lebBytesRow : OpenClaim := { program := "ytmdniighbddjnaa", sum := "7af0af77b341d317b8ba7809ce49066f9de095e95b81fafacf0480c8b274074d", func := "secateur/secateurlaw01.LebBytes", spec := "lebBytes", apart := false }
def LebBytesSaid : Prop := lebBytesRow.holds Try.pinned (OpenSpec.ofChange lebBytesSpec)

/-- ITS FALSE NEIGHBOUR: 'it returns false'. Refute it at one input. -/
def lebBytesWrong : ChangeSpec := { name := "lebBytes", fn := fun _ => fun
  | [d1, d2, d3] => { results := [.lit (.bool false)], args := [d1, d2, d3] }
  | _ => none }
def LebBytesWrongFalsely : Prop := lebBytesRow.holds Try.pinned (OpenSpec.ofChange lebBytesWrong)

/-- 'secateurlaw01.LebSigns': WHATEVER THE INPUT: true; the input reads as it did. -/
def lebSignsSpec : ChangeSpec := { name := "lebSigns", fn := fun _ => fun
  | [d1, d2] => { results := [.lit (.bool true)], args := [d1, d2] }
  | _ => none }
def lebSignsRow : OpenClaim := { program := "ytmdniighbddjnaa", sum := "7af0af77b341d317b8ba7809ce49066f9de095e95b81fafacf0480c8b274074d", func := "secateur/secateurlaw01.LebSigns", spec := "lebSigns", apart := false }
def LebSignsSaid : Prop := lebSignsRow.holds Try.pinned (OpenSpec.ofChange lebSignsSpec)

/-- ITS FALSE NEIGHBOUR: 'it returns false'. Refute it at one input. -/
def lebSignsWrong : ChangeSpec := { name := "lebSigns", fn := fun _ => fun
  | [d1, d2] => { results := [.lit (.bool false)], args := [d1, d2] }
  | _ => none }
def LebSignsWrongFalsely : Prop := lebSignsRow.holds Try.pinned (OpenSpec.ofChange lebSignsWrong)

/-- 'secateurlaw01.LebBack': WHATEVER THE INPUT: true; the input reads as it did. -/
def lebBackSpec : ChangeSpec := { name := "lebBack", fn := fun _ => fun
  | [d1, d2, d3] => { results := [.lit (.bool true)], args := [d1, d2, d3] }
  | _ => none }
def lebBackRow : OpenClaim := { program := "ytmdniighbddjnaa", sum := "7af0af77b341d317b8ba7809ce49066f9de095e95b81fafacf0480c8b274074d", func := "secateur/secateurlaw01.LebBack", spec := "lebBack", apart := false }
def LebBackSaid : Prop := lebBackRow.holds Try.pinned (OpenSpec.ofChange lebBackSpec)

/-- ITS FALSE NEIGHBOUR: 'it returns false'. Refute it at one input. -/
def lebBackWrong : ChangeSpec := { name := "lebBack", fn := fun _ => fun
  | [d1, d2, d3] => { results := [.lit (.bool false)], args := [d1, d2, d3] }
  | _ => none }
def LebBackWrongFalsely : Prop := lebBackRow.holds Try.pinned (OpenSpec.ofChange lebBackWrong)

/-- 'secateurlaw01.LebRises': WHATEVER THE INPUT: true; the input reads as it did. -/
def lebRisesSpec : ChangeSpec := { name := "lebRises", fn := fun _ => fun
  | [d1, d2] => { results := [.lit (.bool true)], args := [d1, d2] }
  | _ => none }
def lebRisesRow : OpenClaim := { program := "ytmdniighbddjnaa", sum := "7af0af77b341d317b8ba7809ce49066f9de095e95b81fafacf0480c8b274074d", func := "secateur/secateurlaw01.LebRises", spec := "lebRises", apart := false }
def LebRisesSaid : Prop := lebRisesRow.holds Try.pinned (OpenSpec.ofChange lebRisesSpec)

/-- ITS FALSE NEIGHBOUR: 'it returns false'. Refute it at one input. -/
def lebRisesWrong : ChangeSpec := { name := "lebRises", fn := fun _ => fun
  | [d1, d2] => { results := [.lit (.bool false)], args := [d1, d2] }
  | _ => none }
def LebRisesWrongFalsely : Prop := lebRisesRow.holds Try.pinned (OpenSpec.ofChange lebRisesWrong)

/-- 'secateurlaw01.LebLists': WHATEVER THE INPUT: true; the input reads as it did. -/
def lebListsSpec : ChangeSpec := { name := "lebLists", fn := fun _ => fun
  | [d1, d2] => { results := [.lit (.bool true)], args := [d1, d2] }
  | _ => none }
def lebListsRow : OpenClaim := { program := "ytmdniighbddjnaa", sum := "7af0af77b341d317b8ba7809ce49066f9de095e95b81fafacf0480c8b274074d", func := "secateur/secateurlaw01.LebLists", spec := "lebLists", apart := false }
def LebListsSaid : Prop := lebListsRow.holds Try.pinned (OpenSpec.ofChange lebListsSpec)

/-- ITS FALSE NEIGHBOUR: 'it returns false'. Refute it at one input. -/
def lebListsWrong : ChangeSpec := { name := "lebLists", fn := fun _ => fun
  | [d1, d2] => { results := [.lit (.bool false)], args := [d1, d2] }
  | _ => none }
def LebListsWrongFalsely : Prop := lebListsRow.holds Try.pinned (OpenSpec.ofChange lebListsWrong)

/- THE SECOND FORM. 'bulk': how many values and letters a reading holds, each counted each time it is reached (what is shared counts as often as it is met; a slice's spare places count too). A statement '..UptoSaid' is the law's where the arguments, and the package variables that the reading takes, are together of bulk at most 1048576: NARROWER than '..Said'. Prove '..Said' where nothing that the law and all that it calls make is longer than what came in: it says more and counts as full. Else prove '..UptoSaid'. A law counts once. -/
mutual
def uptoBulk {H : Type} : DataW H → Nat
  | .lit (.string bytes) => bytes.length + 1
  | .lit _ => 1
  | .nil => 1
  | .ptr d => uptoBulk d + 1
  | .slice elems spare => uptoBulkAll elems + uptoBulkAll spare + 1
  | .agg parts => uptoBulkAll parts + 1
  | .iface _ d => uptoBulk d + 1
  | .map entries => uptoBulkEntries entries + 1
  | .held _ => 1
def uptoBulkAll {H : Type} : List (DataW H) → Nat
  | [] => 0
  | d :: r => uptoBulk d + uptoBulkAll r
def uptoBulkEntries {H : Type} : List (Lit × DataW H) → Nat
  | [] => 0
  | x :: r => uptoBulkEntry x + uptoBulkEntries r
def uptoBulkEntry {H : Type} : Lit × DataW H → Nat
  | (.string bytes, d) => bytes.length + uptoBulk d + 1
  | (_, d) => uptoBulk d + 1
 end
def uptoSmall : (H : Type) → List (DataW H) → Bool := fun _ ds => decide (uptoBulkAll ds ≤ 1048576)
def OpenSpec.upto (s : _root_.Go.ChangeSpec) : _root_.Go.OpenSpec := { _root_.Go.OpenSpec.ofChange s with cond := some uptoSmall }

/-- 'secateurlaw01.LebBytes', WHERE WHAT IT READS IS OF BULK AT MOST 1048576: true; the input reads as it did. -/
def lebBytesUptoRow : OpenClaim := { program := "ytmdniighbddjnaa", sum := "7af0af77b341d317b8ba7809ce49066f9de095e95b81fafacf0480c8b274074d", func := "secateur/secateurlaw01.LebBytes", spec := "lebBytes", apart := false, narrowed := true }
def LebBytesUptoSaid : Prop := lebBytesUptoRow.holds Try.pinned (OpenSpec.upto lebBytesSpec)

/-- 'secateurlaw01.LebSigns', WHERE WHAT IT READS IS OF BULK AT MOST 1048576: true; the input reads as it did. -/
def lebSignsUptoRow : OpenClaim := { program := "ytmdniighbddjnaa", sum := "7af0af77b341d317b8ba7809ce49066f9de095e95b81fafacf0480c8b274074d", func := "secateur/secateurlaw01.LebSigns", spec := "lebSigns", apart := false, narrowed := true }
def LebSignsUptoSaid : Prop := lebSignsUptoRow.holds Try.pinned (OpenSpec.upto lebSignsSpec)

/-- 'secateurlaw01.LebBack', WHERE WHAT IT READS IS OF BULK AT MOST 1048576: true; the input reads as it did. -/
def lebBackUptoRow : OpenClaim := { program := "ytmdniighbddjnaa", sum := "7af0af77b341d317b8ba7809ce49066f9de095e95b81fafacf0480c8b274074d", func := "secateur/secateurlaw01.LebBack", spec := "lebBack", apart := false, narrowed := true }
def LebBackUptoSaid : Prop := lebBackUptoRow.holds Try.pinned (OpenSpec.upto lebBackSpec)

/-- 'secateurlaw01.LebRises', WHERE WHAT IT READS IS OF BULK AT MOST 1048576: true; the input reads as it did. -/
def lebRisesUptoRow : OpenClaim := { program := "ytmdniighbddjnaa", sum := "7af0af77b341d317b8ba7809ce49066f9de095e95b81fafacf0480c8b274074d", func := "secateur/secateurlaw01.LebRises", spec := "lebRises", apart := false, narrowed := true }
def LebRisesUptoSaid : Prop := lebRisesUptoRow.holds Try.pinned (OpenSpec.upto lebRisesSpec)

/-- 'secateurlaw01.LebLists', WHERE WHAT IT READS IS OF BULK AT MOST 1048576: true; the input reads as it did. -/
def lebListsUptoRow : OpenClaim := { program := "ytmdniighbddjnaa", sum := "7af0af77b341d317b8ba7809ce49066f9de095e95b81fafacf0480c8b274074d", func := "secateur/secateurlaw01.LebLists", spec := "lebLists", apart := false, narrowed := true }
def LebListsUptoSaid : Prop := lebListsUptoRow.holds Try.pinned (OpenSpec.upto lebListsSpec)

end Rows
end Go.Proofs.Ytmdniighbddjnaa
