/-
  DERIVED. GIVEN WITH THE SEED: THE CARDS: each row of YtmlbfepibfobaaaDoorRows.lean that lists a variable, with what it lists TIED to the program's text (the seventh form; the later family's looks); each row that meets fmt, with fmt's text TOLD by the authors' own Lean function (tested against real Go, not proved from fmt's source: count such statements apart). THE CARD IS WHAT COUNTS. Prove the row's statement (the work); the ties are given (YtmlbfepibfobaaaDoorTie.lean); close each card by the builder's one call (the guide's Derived/Test/ToyasCard.lean, 'card_holds'). Laid BY PROGRAM, IN A SANDBOX (cutbox-door.mjs). By AI agents, Wed Nov 11 2026. No macro, syntax, notation, axiom, sorry.
-/
import Derived.Test.YtmlbfepibfobaaaDoorRows
import GoSem.ClaimSeven
namespace Go.Proofs.YtmlbfepibfobaaaDoor
namespace Rows

/-- THE TIED CARD OF 'secateurlaw03.WireFlips'. -/
def wireFlipsCard : Claim7 := { stood := { row := wireFlipsRow, standIns := [], harness := (true, "9c0377ea4c3351f78e80108810cc9bbbe7ee8e116ee334f9f4c9c2f71d90bcd0"), looks := true }, kinds := [], alts := [], laidByText := true, laidKinds := [.data], laidTests := true, laidLooks := .later }
def WireFlipsCardSaid : Prop := Claim7.holds Tryd.pinned (.plain (OpenSpec.ofChange wireFlipsSpec)) wireFlipsCard

/-- THE TIED CARD OF 'secateurlaw03.WireWrites'. -/
def wireWritesCard : Claim7 := { stood := { row := wireWritesRow, standIns := [], harness := (true, "9c0377ea4c3351f78e80108810cc9bbbe7ee8e116ee334f9f4c9c2f71d90bcd0"), looks := true }, kinds := [], alts := [], laidByText := true, laidKinds := [.data], laidTests := true, laidLooks := .later }
def WireWritesCardSaid : Prop := Claim7.holds Tryd.pinned (.plain (OpenSpec.ofChange wireWritesSpec)) wireWritesCard

/-- THE TIED CARD OF 'secateurlaw03.WireBack'. -/
def wireBackCard : Claim7 := { stood := { row := wireBackRow, standIns := [], harness := (true, "9c0377ea4c3351f78e80108810cc9bbbe7ee8e116ee334f9f4c9c2f71d90bcd0"), looks := true }, kinds := [], alts := [], laidByText := true, laidKinds := [.data], laidTests := true, laidLooks := .later }
def WireBackCardSaid : Prop := Claim7.holds Tryd.pinned (.plain (OpenSpec.ofChange wireBackSpec)) wireBackCard

/-- THE TIED CARD OF 'secateurlaw03.WireReads'. -/
def wireReadsCard : Claim7 := { stood := { row := wireReadsRow, standIns := [], harness := (true, "9c0377ea4c3351f78e80108810cc9bbbe7ee8e116ee334f9f4c9c2f71d90bcd0"), looks := true }, kinds := [], alts := [], laidByText := true, laidKinds := [.data], laidTests := true, laidLooks := .later }
def WireReadsCardSaid : Prop := Claim7.holds Tryd.pinned (.plain (OpenSpec.ofChange wireReadsSpec)) wireReadsCard

/-- THE TIED CARD OF 'secateurlaw03.WireStays'. -/
def wireStaysCard : Claim7 := { stood := { row := wireStaysRow, standIns := [], harness := (true, "9c0377ea4c3351f78e80108810cc9bbbe7ee8e116ee334f9f4c9c2f71d90bcd0"), looks := true }, kinds := [], alts := [], laidByText := true, laidKinds := [.data], laidTests := true, laidLooks := .later }
def WireStaysCardSaid : Prop := Claim7.holds Tryd.pinned (.plain (OpenSpec.ofChange wireStaysSpec)) wireStaysCard

/-- THE TIED CARD OF 'secateurtop.TopLines'. -/
def topLinesCard : Claim7 := { stood := { row := topLinesRow, standIns := [], harness := (true, "9c0377ea4c3351f78e80108810cc9bbbe7ee8e116ee334f9f4c9c2f71d90bcd0"), looks := true }, kinds := [], alts := [], laidByText := true, laidKinds := [.data], laidTests := true, laidLooks := .later }
def TopLinesCardSaid : Prop := Claim7.holds Tryd.pinned (.plain (OpenSpec.ofChange topLinesSpec)) topLinesCard

/-- THE TIED CARD OF 'secateurlaw04.WordLines'. -/
def wordLinesCard : Claim7 := { stood := { row := wordLinesRow, standIns := [], harness := (true, "9c0377ea4c3351f78e80108810cc9bbbe7ee8e116ee334f9f4c9c2f71d90bcd0"), looks := true }, kinds := [], alts := [], laidByText := true, laidKinds := [.data, .pinned], laidTests := true, laidLooks := .later }
def WordLinesCardSaid : Prop := Claim7.holds Tryd.pinned (.plain (OpenSpec.ofChange wordLinesSpec)) wordLinesCard

/-- THE TIED CARD OF 'secateurlaw04.WordBack'. -/
def wordBackCard : Claim7 := { stood := { row := wordBackRow, standIns := [], harness := (true, "9c0377ea4c3351f78e80108810cc9bbbe7ee8e116ee334f9f4c9c2f71d90bcd0"), looks := true }, kinds := [], alts := [], laidByText := true, laidKinds := [.data, .pinned], laidTests := true, laidLooks := .later }
def WordBackCardSaid : Prop := Claim7.holds Tryd.pinned (.plain (OpenSpec.ofChange wordBackSpec)) wordBackCard

/-- THE TIED CARD OF 'secateurlaw22.RulesTexts'. -/
def rulesTextsCard : Claim7 := { stood := { row := rulesTextsRow, standIns := [], harness := (true, "9c0377ea4c3351f78e80108810cc9bbbe7ee8e116ee334f9f4c9c2f71d90bcd0"), looks := true }, kinds := [], alts := [], laidByText := true, laidKinds := [.data, .pinned], laidTests := true, laidLooks := .later }
def RulesTextsCardSaid : Prop := Claim7.holds Tryd.pinned (.plain (OpenSpec.ofChange rulesTextsSpec)) rulesTextsCard

/-- THE TIED CARD OF 'secateurlaw22.RulesBack'. -/
def rulesBackCard : Claim7 := { stood := { row := rulesBackRow, standIns := [], harness := (true, "9c0377ea4c3351f78e80108810cc9bbbe7ee8e116ee334f9f4c9c2f71d90bcd0"), looks := true }, kinds := [], alts := [], laidByText := true, laidKinds := [.data, .pinned], laidTests := true, laidLooks := .later }
def RulesBackCardSaid : Prop := Claim7.holds Tryd.pinned (.plain (OpenSpec.ofChange rulesBackSpec)) rulesBackCard

/-- THE TIED CARD OF 'secateurlaw22.RulesMatch'. -/
def rulesMatchCard : Claim7 := { stood := { row := rulesMatchRow, standIns := [], harness := (true, "9c0377ea4c3351f78e80108810cc9bbbe7ee8e116ee334f9f4c9c2f71d90bcd0"), looks := true }, kinds := [], alts := [], laidByText := true, laidKinds := [.data, .pinned], laidTests := true, laidLooks := .later }
def RulesMatchCardSaid : Prop := Claim7.holds Tryd.pinned (.plain (OpenSpec.ofChange rulesMatchSpec)) rulesMatchCard

/-- THE TIED CARD OF 'secateurlaw22.RulesExact'. -/
def rulesExactCard : Claim7 := { stood := { row := rulesExactRow, standIns := [], harness := (true, "9c0377ea4c3351f78e80108810cc9bbbe7ee8e116ee334f9f4c9c2f71d90bcd0"), looks := true }, kinds := [], alts := [], laidByText := true, laidKinds := [.data, .pinned], laidTests := true, laidLooks := .later }
def RulesExactCardSaid : Prop := Claim7.holds Tryd.pinned (.plain (OpenSpec.ofChange rulesExactSpec)) rulesExactCard

/-- THE TIED CARD OF 'secateurtop.TopPatterns'. -/
def topPatternsCard : Claim7 := { stood := { row := topPatternsRow, standIns := [], harness := (true, "9c0377ea4c3351f78e80108810cc9bbbe7ee8e116ee334f9f4c9c2f71d90bcd0"), looks := true }, kinds := [], alts := [], laidByText := true, laidKinds := [.data, .pinned], laidTests := true, laidLooks := .later }
def TopPatternsCardSaid : Prop := Claim7.holds Tryd.pinned (.plain (OpenSpec.ofChange topPatternsSpec)) topPatternsCard

/-- THE SECOND FORM's CARD OF 'secateurlaw03.WireFlips'. -/
def wireFlipsUptoCard : Claim7 := { stood := { row := wireFlipsUptoRow, standIns := [], harness := (true, "9c0377ea4c3351f78e80108810cc9bbbe7ee8e116ee334f9f4c9c2f71d90bcd0"), looks := true }, kinds := [], alts := [], laidByText := true, laidKinds := [.data], laidTests := true, laidLooks := .later }
def WireFlipsUptoCardSaid : Prop := Claim7.holds Tryd.pinned (.plain (OpenSpec.upto wireFlipsSpec)) wireFlipsUptoCard

/-- THE SECOND FORM's CARD OF 'secateurlaw03.WireWrites'. -/
def wireWritesUptoCard : Claim7 := { stood := { row := wireWritesUptoRow, standIns := [], harness := (true, "9c0377ea4c3351f78e80108810cc9bbbe7ee8e116ee334f9f4c9c2f71d90bcd0"), looks := true }, kinds := [], alts := [], laidByText := true, laidKinds := [.data], laidTests := true, laidLooks := .later }
def WireWritesUptoCardSaid : Prop := Claim7.holds Tryd.pinned (.plain (OpenSpec.upto wireWritesSpec)) wireWritesUptoCard

/-- THE SECOND FORM's CARD OF 'secateurlaw03.WireBack'. -/
def wireBackUptoCard : Claim7 := { stood := { row := wireBackUptoRow, standIns := [], harness := (true, "9c0377ea4c3351f78e80108810cc9bbbe7ee8e116ee334f9f4c9c2f71d90bcd0"), looks := true }, kinds := [], alts := [], laidByText := true, laidKinds := [.data], laidTests := true, laidLooks := .later }
def WireBackUptoCardSaid : Prop := Claim7.holds Tryd.pinned (.plain (OpenSpec.upto wireBackSpec)) wireBackUptoCard

/-- THE SECOND FORM's CARD OF 'secateurlaw03.WireReads'. -/
def wireReadsUptoCard : Claim7 := { stood := { row := wireReadsUptoRow, standIns := [], harness := (true, "9c0377ea4c3351f78e80108810cc9bbbe7ee8e116ee334f9f4c9c2f71d90bcd0"), looks := true }, kinds := [], alts := [], laidByText := true, laidKinds := [.data], laidTests := true, laidLooks := .later }
def WireReadsUptoCardSaid : Prop := Claim7.holds Tryd.pinned (.plain (OpenSpec.upto wireReadsSpec)) wireReadsUptoCard

/-- THE SECOND FORM's CARD OF 'secateurlaw03.WireStays'. -/
def wireStaysUptoCard : Claim7 := { stood := { row := wireStaysUptoRow, standIns := [], harness := (true, "9c0377ea4c3351f78e80108810cc9bbbe7ee8e116ee334f9f4c9c2f71d90bcd0"), looks := true }, kinds := [], alts := [], laidByText := true, laidKinds := [.data], laidTests := true, laidLooks := .later }
def WireStaysUptoCardSaid : Prop := Claim7.holds Tryd.pinned (.plain (OpenSpec.upto wireStaysSpec)) wireStaysUptoCard

/-- THE SECOND FORM's CARD OF 'secateurtop.TopLines'. -/
def topLinesUptoCard : Claim7 := { stood := { row := topLinesUptoRow, standIns := [], harness := (true, "9c0377ea4c3351f78e80108810cc9bbbe7ee8e116ee334f9f4c9c2f71d90bcd0"), looks := true }, kinds := [], alts := [], laidByText := true, laidKinds := [.data], laidTests := true, laidLooks := .later }
def TopLinesUptoCardSaid : Prop := Claim7.holds Tryd.pinned (.plain (OpenSpec.upto topLinesSpec)) topLinesUptoCard

/-- THE SECOND FORM's CARD OF 'secateurlaw04.WordLines'. -/
def wordLinesUptoCard : Claim7 := { stood := { row := wordLinesUptoRow, standIns := [], harness := (true, "9c0377ea4c3351f78e80108810cc9bbbe7ee8e116ee334f9f4c9c2f71d90bcd0"), looks := true }, kinds := [], alts := [], laidByText := true, laidKinds := [.data, .pinned], laidTests := true, laidLooks := .later }
def WordLinesUptoCardSaid : Prop := Claim7.holds Tryd.pinned (.plain (OpenSpec.upto wordLinesSpec)) wordLinesUptoCard

/-- THE SECOND FORM's CARD OF 'secateurlaw04.WordBack'. -/
def wordBackUptoCard : Claim7 := { stood := { row := wordBackUptoRow, standIns := [], harness := (true, "9c0377ea4c3351f78e80108810cc9bbbe7ee8e116ee334f9f4c9c2f71d90bcd0"), looks := true }, kinds := [], alts := [], laidByText := true, laidKinds := [.data, .pinned], laidTests := true, laidLooks := .later }
def WordBackUptoCardSaid : Prop := Claim7.holds Tryd.pinned (.plain (OpenSpec.upto wordBackSpec)) wordBackUptoCard

/-- THE SECOND FORM's CARD OF 'secateurlaw22.RulesTexts'. -/
def rulesTextsUptoCard : Claim7 := { stood := { row := rulesTextsUptoRow, standIns := [], harness := (true, "9c0377ea4c3351f78e80108810cc9bbbe7ee8e116ee334f9f4c9c2f71d90bcd0"), looks := true }, kinds := [], alts := [], laidByText := true, laidKinds := [.data, .pinned], laidTests := true, laidLooks := .later }
def RulesTextsUptoCardSaid : Prop := Claim7.holds Tryd.pinned (.plain (OpenSpec.upto rulesTextsSpec)) rulesTextsUptoCard

/-- THE SECOND FORM's CARD OF 'secateurlaw22.RulesBack'. -/
def rulesBackUptoCard : Claim7 := { stood := { row := rulesBackUptoRow, standIns := [], harness := (true, "9c0377ea4c3351f78e80108810cc9bbbe7ee8e116ee334f9f4c9c2f71d90bcd0"), looks := true }, kinds := [], alts := [], laidByText := true, laidKinds := [.data, .pinned], laidTests := true, laidLooks := .later }
def RulesBackUptoCardSaid : Prop := Claim7.holds Tryd.pinned (.plain (OpenSpec.upto rulesBackSpec)) rulesBackUptoCard

/-- THE SECOND FORM's CARD OF 'secateurlaw22.RulesMatch'. -/
def rulesMatchUptoCard : Claim7 := { stood := { row := rulesMatchUptoRow, standIns := [], harness := (true, "9c0377ea4c3351f78e80108810cc9bbbe7ee8e116ee334f9f4c9c2f71d90bcd0"), looks := true }, kinds := [], alts := [], laidByText := true, laidKinds := [.data, .pinned], laidTests := true, laidLooks := .later }
def RulesMatchUptoCardSaid : Prop := Claim7.holds Tryd.pinned (.plain (OpenSpec.upto rulesMatchSpec)) rulesMatchUptoCard

/-- THE SECOND FORM's CARD OF 'secateurlaw22.RulesExact'. -/
def rulesExactUptoCard : Claim7 := { stood := { row := rulesExactUptoRow, standIns := [], harness := (true, "9c0377ea4c3351f78e80108810cc9bbbe7ee8e116ee334f9f4c9c2f71d90bcd0"), looks := true }, kinds := [], alts := [], laidByText := true, laidKinds := [.data, .pinned], laidTests := true, laidLooks := .later }
def RulesExactUptoCardSaid : Prop := Claim7.holds Tryd.pinned (.plain (OpenSpec.upto rulesExactSpec)) rulesExactUptoCard

/-- THE SECOND FORM's CARD OF 'secateurtop.TopPatterns'. -/
def topPatternsUptoCard : Claim7 := { stood := { row := topPatternsUptoRow, standIns := [], harness := (true, "9c0377ea4c3351f78e80108810cc9bbbe7ee8e116ee334f9f4c9c2f71d90bcd0"), looks := true }, kinds := [], alts := [], laidByText := true, laidKinds := [.data, .pinned], laidTests := true, laidLooks := .later }
def TopPatternsUptoCardSaid : Prop := Claim7.holds Tryd.pinned (.plain (OpenSpec.upto topPatternsSpec)) topPatternsUptoCard
end Rows
end Go.Proofs.YtmlbfepibfobaaaDoor
