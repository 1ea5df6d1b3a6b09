/-
  DERIVED. GIVEN WITH THE SEED: THE CARDS: each row of YtaokkkolbifdpaaGreatDoorRows.lean that lists a variable, with what it lists TIED to the program's text (the seventh form; the later family's looks); each row that meets fmt, with fmt's text TOLD by the authors' own Lean function (tested against real Go, not proved from fmt's source: count such statements apart). THE CARD IS WHAT COUNTS. Prove the row's statement (the work); the ties are given (YtaokkkolbifdpaaGreatDoorTie.lean); close each card by the builder's one call (the guide's Derived/Test/ToyasCard.lean, 'card_holds'). Laid BY PROGRAM, IN A SANDBOX (cutbox-door.mjs). By AI agents, Wed Nov 11 2026. No macro, syntax, notation, axiom, sorry.
-/
import Derived.Test.YtaokkkolbifdpaaGreatDoorRows
import GoSem.ClaimSeven
namespace Go.Proofs.YtaokkkolbifdpaaGreatDoor
namespace Rows

/-- THE TIED CARD OF 'secateurlaw30.LegendLines'. -/
def legendLinesCard : Claim7 := { stood := { row := legendLinesRow, standIns := [], harness := (true, "dabd66814a021a42000d5a9f095b6edc3201e116ca56c5f834e632879d23410b"), looks := true }, kinds := [], alts := [], laidByText := true, laidKinds := [.data, .pinned], laidTests := true, laidLooks := .later }
def LegendLinesCardSaid : Prop := Claim7.holds Tryz.pinned (.plain (OpenSpec.ofChange legendLinesSpec)) legendLinesCard

/-- THE TIED CARD OF 'secateurlaw30.LegendPairs'. -/
def legendPairsCard : Claim7 := { stood := { row := legendPairsRow, standIns := [], harness := (true, "dabd66814a021a42000d5a9f095b6edc3201e116ca56c5f834e632879d23410b"), looks := true }, kinds := [], alts := [], laidByText := true, laidKinds := [.data, .pinned], laidTests := true, laidLooks := .later }
def LegendPairsCardSaid : Prop := Claim7.holds Tryz.pinned (.plain (OpenSpec.ofChange legendPairsSpec)) legendPairsCard

/-- THE TIED CARD OF 'secateurlaw30.LegendTexts'. -/
def legendTextsCard : Claim7 := { stood := { row := legendTextsRow, standIns := [], harness := (true, "dabd66814a021a42000d5a9f095b6edc3201e116ca56c5f834e632879d23410b"), looks := true }, kinds := [], alts := [], laidByText := true, laidKinds := [.data, .pinned], laidTests := true, laidLooks := .later }
def LegendTextsCardSaid : Prop := Claim7.holds Tryz.pinned (.plain (OpenSpec.ofChange legendTextsSpec)) legendTextsCard

/-- THE SECOND FORM's CARD OF 'secateurlaw30.LegendLines'. -/
def legendLinesUptoCard : Claim7 := { stood := { row := legendLinesUptoRow, standIns := [], harness := (true, "dabd66814a021a42000d5a9f095b6edc3201e116ca56c5f834e632879d23410b"), looks := true }, kinds := [], alts := [], laidByText := true, laidKinds := [.data, .pinned], laidTests := true, laidLooks := .later }
def LegendLinesUptoCardSaid : Prop := Claim7.holds Tryz.pinned (.plain (OpenSpec.upto legendLinesSpec)) legendLinesUptoCard

/-- THE SECOND FORM's CARD OF 'secateurlaw30.LegendPairs'. -/
def legendPairsUptoCard : Claim7 := { stood := { row := legendPairsUptoRow, standIns := [], harness := (true, "dabd66814a021a42000d5a9f095b6edc3201e116ca56c5f834e632879d23410b"), looks := true }, kinds := [], alts := [], laidByText := true, laidKinds := [.data, .pinned], laidTests := true, laidLooks := .later }
def LegendPairsUptoCardSaid : Prop := Claim7.holds Tryz.pinned (.plain (OpenSpec.upto legendPairsSpec)) legendPairsUptoCard

/-- THE SECOND FORM's CARD OF 'secateurlaw30.LegendTexts'. -/
def legendTextsUptoCard : Claim7 := { stood := { row := legendTextsUptoRow, standIns := [], harness := (true, "dabd66814a021a42000d5a9f095b6edc3201e116ca56c5f834e632879d23410b"), looks := true }, kinds := [], alts := [], laidByText := true, laidKinds := [.data, .pinned], laidTests := true, laidLooks := .later }
def LegendTextsUptoCardSaid : Prop := Claim7.holds Tryz.pinned (.plain (OpenSpec.upto legendTextsSpec)) legendTextsUptoCard
end Rows
end Go.Proofs.YtaokkkolbifdpaaGreatDoor
