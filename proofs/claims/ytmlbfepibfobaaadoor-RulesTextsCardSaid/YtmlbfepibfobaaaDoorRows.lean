/-
  NARROWER THAN 'FOR EVERY INPUT', by the rows' own cells (each row's printed sentence says how): WireFlips: laid · WireWrites: laid · WireBack: laid · WireReads: laid · WireStays: laid · TopLines: laid · WordLines: laid · WordBack: laid · RulesTexts: laid · RulesBack: laid · RulesMatch: laid · RulesExact: laid · TopPatterns: laid.
  DERIVED. THE GIVEN ROWS OF THIS SEAT. 13 by the template 'for every input the law returns true; each argument reads behind the call as it read before'; 0 by the template 'total and deterministic' (their statements: YtmlbfepibfobaaaDoorTotals.lean).
  GIVEN WITH THE SEED: the statements are not yours to turn. If you find one false, say at which input.
  Laid BY PROGRAM, IN A SANDBOX (cutbox-rows.mjs): the forced cells as the released guide's own fill.sh prints them over the translation 42ffd812fac6edc6… (all of the seat's roots in one cut). By AI agents, Wed Nov 11 2026. No macro, syntax, notation, axiom, sorry.
-/
import Derived.Test.YtmlbfepibfobaaaDoorChecked
import GoSem.PinnedTables
import GoSem.Claim
import GoSem.ClaimJoined
import GoSem.ClaimMapViews
import Derived.JoinedTies
import Derived.KernelRfl
namespace Go.Proofs.YtmlbfepibfobaaaDoor
/- THE CELL 'sum', in the pinned program and in every row, IS THE sha256 OF THE DUMP (.gsa) THAT YtmlbfepibfobaaaDoorProg.lean LOADS. Nothing in Lean hashes anything: it is a label: what it is worth is what the hold of that sum in a sandbox is worth. -/
noncomputable def Tryd.pinned : Pinned := { name := "ytmlbfepibfobaaadoor", sum := "42ffd812fac6edc692927853c12b06504ee08815bc1b829206b431af6c012f18", checked := Tryd.checked }
namespace Rows
def none {H : Type} : Left H := { results := [], args := [] }

/- WHAT THE LISTED PACKAGE-LEVEL VARIABLES READ AS WHEN THE CALL BEGINS. Each datum BY PROGRAM (the guide's laid-datum.mjs) off the statement by which the dump's own 'gosem.cut.vars' lays the variable. In a bare row this is a premise. The card (YtmlbfepibfobaaaDoorCards.lean) ties it to the program's text. -/
def laid_secateur_crc_four {H : Type} : DataW H := .agg [.lit (.int .u32 0), .lit (.int .u32 498536548), .lit (.int .u32 997073096), .lit (.int .u32 651767980), .lit (.int .u32 1994146192), .lit (.int .u32 1802195444), .lit (.int .u32 1303535960), .lit (.int .u32 1342533948), .lit (.int .u32 3988292384), .lit (.int .u32 4027552580), .lit (.int .u32 3604390888), .lit (.int .u32 3412177804), .lit (.int .u32 2607071920), .lit (.int .u32 2262029012), .lit (.int .u32 2685067896), .lit (.int .u32 3183342108)]
def laid_unicode_utf8_acceptRanges {H : Type} : DataW H := .agg [.agg [.lit (.int .u8 128), .lit (.int .u8 191)], .agg [.lit (.int .u8 160), .lit (.int .u8 191)], .agg [.lit (.int .u8 128), .lit (.int .u8 159)], .agg [.lit (.int .u8 144), .lit (.int .u8 191)], .agg [.lit (.int .u8 128), .lit (.int .u8 143)], .agg [.lit (.int .u8 0), .lit (.int .u8 0)], .agg [.lit (.int .u8 0), .lit (.int .u8 0)], .agg [.lit (.int .u8 0), .lit (.int .u8 0)], .agg [.lit (.int .u8 0), .lit (.int .u8 0)], .agg [.lit (.int .u8 0), .lit (.int .u8 0)], .agg [.lit (.int .u8 0), .lit (.int .u8 0)], .agg [.lit (.int .u8 0), .lit (.int .u8 0)], .agg [.lit (.int .u8 0), .lit (.int .u8 0)], .agg [.lit (.int .u8 0), .lit (.int .u8 0)], .agg [.lit (.int .u8 0), .lit (.int .u8 0)], .agg [.lit (.int .u8 0), .lit (.int .u8 0)]]
/-- One of Go's own tables, pinned by name: the form's constant. -/
def laid_unicode_utf8_first : DataW Unit := Go.Pinned.utf8First

/-- 'secateurlaw03.WireFlips': WHATEVER THE INPUT: true; the input reads as it did. -/
def wireFlipsSpec : ChangeSpec := { name := "wireFlips", fn := fun _ => fun
  | [d1, d2, d3] => { results := [.lit (.bool true)], args := [d1, d2, d3] }
  | _ => none }
def wireFlipsRow : OpenClaim := { program := "ytmlbfepibfobaaadoor", sum := "42ffd812fac6edc692927853c12b06504ee08815bc1b829206b431af6c012f18", func := "secateur/secateurlaw03.WireFlips", spec := "wireFlips", named := ["secateur/crc.four"], apart := false, laid := [("secateur/crc.four", laid_secateur_crc_four)] }
def WireFlipsSaid : Prop := wireFlipsRow.holds Tryd.pinned (OpenSpec.ofChange wireFlipsSpec)

/-- ITS FALSE NEIGHBOUR: 'it returns false'. Refute it at one input. -/
def wireFlipsWrong : ChangeSpec := { name := "wireFlips", fn := fun _ => fun
  | [d1, d2, d3] => { results := [.lit (.bool false)], args := [d1, d2, d3] }
  | _ => none }
def WireFlipsWrongFalsely : Prop := wireFlipsRow.holds Tryd.pinned (OpenSpec.ofChange wireFlipsWrong)

/-- 'secateurlaw03.WireWrites': WHATEVER THE INPUT: true; the input reads as it did. -/
def wireWritesSpec : ChangeSpec := { name := "wireWrites", fn := fun _ => fun
  | [d1, d2, d3] => { results := [.lit (.bool true)], args := [d1, d2, d3] }
  | _ => none }
def wireWritesRow : OpenClaim := { program := "ytmlbfepibfobaaadoor", sum := "42ffd812fac6edc692927853c12b06504ee08815bc1b829206b431af6c012f18", func := "secateur/secateurlaw03.WireWrites", spec := "wireWrites", named := ["secateur/crc.four"], apart := false, laid := [("secateur/crc.four", laid_secateur_crc_four)] }
def WireWritesSaid : Prop := wireWritesRow.holds Tryd.pinned (OpenSpec.ofChange wireWritesSpec)

/-- ITS FALSE NEIGHBOUR: 'it returns false'. Refute it at one input. -/
def wireWritesWrong : ChangeSpec := { name := "wireWrites", fn := fun _ => fun
  | [d1, d2, d3] => { results := [.lit (.bool false)], args := [d1, d2, d3] }
  | _ => none }
def WireWritesWrongFalsely : Prop := wireWritesRow.holds Tryd.pinned (OpenSpec.ofChange wireWritesWrong)

/-- 'secateurlaw03.WireBack': WHATEVER THE INPUT: true; the input reads as it did. -/
def wireBackSpec : ChangeSpec := { name := "wireBack", fn := fun _ => fun
  | [d1, d2, d3] => { results := [.lit (.bool true)], args := [d1, d2, d3] }
  | _ => none }
def wireBackRow : OpenClaim := { program := "ytmlbfepibfobaaadoor", sum := "42ffd812fac6edc692927853c12b06504ee08815bc1b829206b431af6c012f18", func := "secateur/secateurlaw03.WireBack", spec := "wireBack", named := ["secateur/crc.four"], apart := false, laid := [("secateur/crc.four", laid_secateur_crc_four)] }
def WireBackSaid : Prop := wireBackRow.holds Tryd.pinned (OpenSpec.ofChange wireBackSpec)

/-- ITS FALSE NEIGHBOUR: 'it returns false'. Refute it at one input. -/
def wireBackWrong : ChangeSpec := { name := "wireBack", fn := fun _ => fun
  | [d1, d2, d3] => { results := [.lit (.bool false)], args := [d1, d2, d3] }
  | _ => none }
def WireBackWrongFalsely : Prop := wireBackRow.holds Tryd.pinned (OpenSpec.ofChange wireBackWrong)

/-- 'secateurlaw03.WireReads': WHATEVER THE INPUT: true; the input reads as it did. -/
def wireReadsSpec : ChangeSpec := { name := "wireReads", fn := fun _ => fun
  | [d1, d2] => { results := [.lit (.bool true)], args := [d1, d2] }
  | _ => none }
def wireReadsRow : OpenClaim := { program := "ytmlbfepibfobaaadoor", sum := "42ffd812fac6edc692927853c12b06504ee08815bc1b829206b431af6c012f18", func := "secateur/secateurlaw03.WireReads", spec := "wireReads", named := ["secateur/crc.four"], apart := false, laid := [("secateur/crc.four", laid_secateur_crc_four)] }
def WireReadsSaid : Prop := wireReadsRow.holds Tryd.pinned (OpenSpec.ofChange wireReadsSpec)

/-- ITS FALSE NEIGHBOUR: 'it returns false'. Refute it at one input. -/
def wireReadsWrong : ChangeSpec := { name := "wireReads", fn := fun _ => fun
  | [d1, d2] => { results := [.lit (.bool false)], args := [d1, d2] }
  | _ => none }
def WireReadsWrongFalsely : Prop := wireReadsRow.holds Tryd.pinned (OpenSpec.ofChange wireReadsWrong)

/-- 'secateurlaw03.WireStays': WHATEVER THE INPUT: true; the input reads as it did. -/
def wireStaysSpec : ChangeSpec := { name := "wireStays", fn := fun _ => fun
  | [d1, d2] => { results := [.lit (.bool true)], args := [d1, d2] }
  | _ => none }
def wireStaysRow : OpenClaim := { program := "ytmlbfepibfobaaadoor", sum := "42ffd812fac6edc692927853c12b06504ee08815bc1b829206b431af6c012f18", func := "secateur/secateurlaw03.WireStays", spec := "wireStays", named := ["secateur/crc.four"], apart := false, laid := [("secateur/crc.four", laid_secateur_crc_four)] }
def WireStaysSaid : Prop := wireStaysRow.holds Tryd.pinned (OpenSpec.ofChange wireStaysSpec)

/-- ITS FALSE NEIGHBOUR: 'it returns false'. Refute it at one input. -/
def wireStaysWrong : ChangeSpec := { name := "wireStays", fn := fun _ => fun
  | [d1, d2] => { results := [.lit (.bool false)], args := [d1, d2] }
  | _ => none }
def WireStaysWrongFalsely : Prop := wireStaysRow.holds Tryd.pinned (OpenSpec.ofChange wireStaysWrong)

/-- 'secateurtop.TopLines': WHATEVER THE INPUT: true; the input reads as it did. -/
def topLinesSpec : ChangeSpec := { name := "topLines", fn := fun _ => fun
  | [d] => { results := [.lit (.bool true)], args := [d] }
  | _ => none }
def topLinesRow : OpenClaim := { program := "ytmlbfepibfobaaadoor", sum := "42ffd812fac6edc692927853c12b06504ee08815bc1b829206b431af6c012f18", func := "secateur/secateurtop.TopLines", spec := "topLines", inPlace := ["internal/bytealg.IndexByteString", "internal/bytealg.IndexString", "internal/abi.NoEscape"], unfollowed := true, recurses := true, named := ["internal/bytealg.MaxLen", "secateur/crc.four"], apart := false, laid := [("secateur/crc.four", laid_secateur_crc_four)] }
def TopLinesSaid : Prop := topLinesRow.holds Tryd.pinned (OpenSpec.ofChange topLinesSpec)

/-- ITS FALSE NEIGHBOUR: 'it returns false'. Refute it at one input. -/
def topLinesWrong : ChangeSpec := { name := "topLines", fn := fun _ => fun
  | [d] => { results := [.lit (.bool false)], args := [d] }
  | _ => none }
def TopLinesWrongFalsely : Prop := topLinesRow.holds Tryd.pinned (OpenSpec.ofChange topLinesWrong)

/-- 'secateurlaw04.WordLines': WHATEVER THE INPUT: true; the input reads as it did. -/
def wordLinesSpec : ChangeSpec := { name := "wordLines", fn := fun _ => fun
  | [d] => { results := [.lit (.bool true)], args := [d] }
  | _ => none }
def wordLinesRow : OpenClaim := { program := "ytmlbfepibfobaaadoor", sum := "42ffd812fac6edc692927853c12b06504ee08815bc1b829206b431af6c012f18", func := "secateur/secateurlaw04.WordLines", spec := "wordLines", inPlace := ["internal/bytealg.IndexByteString", "internal/bytealg.IndexString", "internal/bytealg.CountString"], unfollowed := true, recurses := true, named := ["internal/bytealg.MaxLen", "unicode/utf8.first", "unicode/utf8.acceptRanges"], apart := false, laid := [("unicode/utf8.acceptRanges", laid_unicode_utf8_acceptRanges), ("unicode/utf8.first", laid_unicode_utf8_first)] }
def WordLinesSaid : Prop := wordLinesRow.holds Tryd.pinned (OpenSpec.ofChange wordLinesSpec)

/-- ITS FALSE NEIGHBOUR: 'it returns false'. Refute it at one input. -/
def wordLinesWrong : ChangeSpec := { name := "wordLines", fn := fun _ => fun
  | [d] => { results := [.lit (.bool false)], args := [d] }
  | _ => none }
def WordLinesWrongFalsely : Prop := wordLinesRow.holds Tryd.pinned (OpenSpec.ofChange wordLinesWrong)

/-- 'secateurlaw04.WordBack': WHATEVER THE INPUT: true; the input reads as it did. -/
def wordBackSpec : ChangeSpec := { name := "wordBack", fn := fun _ => fun
  | [d1, d2] => { results := [.lit (.bool true)], args := [d1, d2] }
  | _ => none }
def wordBackRow : OpenClaim := { program := "ytmlbfepibfobaaadoor", sum := "42ffd812fac6edc692927853c12b06504ee08815bc1b829206b431af6c012f18", func := "secateur/secateurlaw04.WordBack", spec := "wordBack", inPlace := ["internal/bytealg.IndexByteString", "internal/bytealg.IndexString", "internal/abi.NoEscape", "internal/bytealg.CountString", "internal/bytealg.MakeNoZero"], unfollowed := true, recurses := true, named := ["internal/bytealg.MaxLen", "unicode/utf8.first", "unicode/utf8.acceptRanges"], apart := false, laid := [("unicode/utf8.acceptRanges", laid_unicode_utf8_acceptRanges), ("unicode/utf8.first", laid_unicode_utf8_first)] }
def WordBackSaid : Prop := wordBackRow.holds Tryd.pinned (OpenSpec.ofChange wordBackSpec)

/-- ITS FALSE NEIGHBOUR: 'it returns false'. Refute it at one input. -/
def wordBackWrong : ChangeSpec := { name := "wordBack", fn := fun _ => fun
  | [d1, d2] => { results := [.lit (.bool false)], args := [d1, d2] }
  | _ => none }
def WordBackWrongFalsely : Prop := wordBackRow.holds Tryd.pinned (OpenSpec.ofChange wordBackWrong)

/-- 'secateurlaw22.RulesTexts': WHATEVER THE INPUT: true; the input reads as it did. -/
def rulesTextsSpec : ChangeSpec := { name := "rulesTexts", fn := fun _ => fun
  | [d1, d2] => { results := [.lit (.bool true)], args := [d1, d2] }
  | _ => none }
def rulesTextsRow : OpenClaim := { program := "ytmlbfepibfobaaadoor", sum := "42ffd812fac6edc692927853c12b06504ee08815bc1b829206b431af6c012f18", func := "secateur/secateurlaw22.RulesTexts", spec := "rulesTexts", inPlace := ["internal/bytealg.IndexByteString", "internal/bytealg.IndexString", "internal/bytealg.CountString", "internal/abi.NoEscape", "internal/bytealg.MakeNoZero"], unfollowed := true, recurses := true, named := ["internal/bytealg.MaxLen", "unicode/utf8.first", "unicode/utf8.acceptRanges"], apart := false, laid := [("unicode/utf8.acceptRanges", laid_unicode_utf8_acceptRanges), ("unicode/utf8.first", laid_unicode_utf8_first)] }
def RulesTextsSaid : Prop := rulesTextsRow.holds Tryd.pinned (OpenSpec.ofChange rulesTextsSpec)

/-- ITS FALSE NEIGHBOUR: 'it returns false'. Refute it at one input. -/
def rulesTextsWrong : ChangeSpec := { name := "rulesTexts", fn := fun _ => fun
  | [d1, d2] => { results := [.lit (.bool false)], args := [d1, d2] }
  | _ => none }
def RulesTextsWrongFalsely : Prop := rulesTextsRow.holds Tryd.pinned (OpenSpec.ofChange rulesTextsWrong)

/-- 'secateurlaw22.RulesBack': WHATEVER THE INPUT: true; the input reads as it did. -/
def rulesBackSpec : ChangeSpec := { name := "rulesBack", fn := fun _ => fun
  | [d1, d2] => { results := [.lit (.bool true)], args := [d1, d2] }
  | _ => none }
def rulesBackRow : OpenClaim := { program := "ytmlbfepibfobaaadoor", sum := "42ffd812fac6edc692927853c12b06504ee08815bc1b829206b431af6c012f18", func := "secateur/secateurlaw22.RulesBack", spec := "rulesBack", inPlace := ["internal/bytealg.IndexByteString", "internal/bytealg.IndexString", "internal/bytealg.CountString", "internal/abi.NoEscape", "internal/bytealg.MakeNoZero"], unfollowed := true, recurses := true, named := ["internal/bytealg.MaxLen", "unicode/utf8.first", "unicode/utf8.acceptRanges"], apart := false, laid := [("unicode/utf8.acceptRanges", laid_unicode_utf8_acceptRanges), ("unicode/utf8.first", laid_unicode_utf8_first)] }
def RulesBackSaid : Prop := rulesBackRow.holds Tryd.pinned (OpenSpec.ofChange rulesBackSpec)

/-- ITS FALSE NEIGHBOUR: 'it returns false'. Refute it at one input. -/
def rulesBackWrong : ChangeSpec := { name := "rulesBack", fn := fun _ => fun
  | [d1, d2] => { results := [.lit (.bool false)], args := [d1, d2] }
  | _ => none }
def RulesBackWrongFalsely : Prop := rulesBackRow.holds Tryd.pinned (OpenSpec.ofChange rulesBackWrong)

/-- 'secateurlaw22.RulesMatch': WHATEVER THE INPUT: true; the input reads as it did. -/
def rulesMatchSpec : ChangeSpec := { name := "rulesMatch", fn := fun _ => fun
  | [d1, d2] => { results := [.lit (.bool true)], args := [d1, d2] }
  | _ => none }
def rulesMatchRow : OpenClaim := { program := "ytmlbfepibfobaaadoor", sum := "42ffd812fac6edc692927853c12b06504ee08815bc1b829206b431af6c012f18", func := "secateur/secateurlaw22.RulesMatch", spec := "rulesMatch", inPlace := ["internal/bytealg.IndexByteString", "internal/bytealg.IndexString", "internal/bytealg.CountString", "internal/abi.NoEscape", "internal/bytealg.MakeNoZero"], unfollowed := true, recurses := true, named := ["internal/bytealg.MaxLen", "unicode/utf8.first", "unicode/utf8.acceptRanges"], apart := false, laid := [("unicode/utf8.acceptRanges", laid_unicode_utf8_acceptRanges), ("unicode/utf8.first", laid_unicode_utf8_first)] }
def RulesMatchSaid : Prop := rulesMatchRow.holds Tryd.pinned (OpenSpec.ofChange rulesMatchSpec)

/-- ITS FALSE NEIGHBOUR: 'it returns false'. Refute it at one input. -/
def rulesMatchWrong : ChangeSpec := { name := "rulesMatch", fn := fun _ => fun
  | [d1, d2] => { results := [.lit (.bool false)], args := [d1, d2] }
  | _ => none }
def RulesMatchWrongFalsely : Prop := rulesMatchRow.holds Tryd.pinned (OpenSpec.ofChange rulesMatchWrong)

/-- 'secateurlaw22.RulesExact': WHATEVER THE INPUT: true; the input reads as it did. -/
def rulesExactSpec : ChangeSpec := { name := "rulesExact", fn := fun _ => fun
  | [d1, d2, d3] => { results := [.lit (.bool true)], args := [d1, d2, d3] }
  | _ => none }
def rulesExactRow : OpenClaim := { program := "ytmlbfepibfobaaadoor", sum := "42ffd812fac6edc692927853c12b06504ee08815bc1b829206b431af6c012f18", func := "secateur/secateurlaw22.RulesExact", spec := "rulesExact", inPlace := ["internal/bytealg.IndexByteString", "internal/bytealg.IndexString", "internal/bytealg.CountString", "internal/abi.NoEscape", "internal/bytealg.MakeNoZero"], unfollowed := true, recurses := true, named := ["internal/bytealg.MaxLen", "unicode/utf8.first", "unicode/utf8.acceptRanges"], apart := false, laid := [("unicode/utf8.acceptRanges", laid_unicode_utf8_acceptRanges), ("unicode/utf8.first", laid_unicode_utf8_first)] }
def RulesExactSaid : Prop := rulesExactRow.holds Tryd.pinned (OpenSpec.ofChange rulesExactSpec)

/-- ITS FALSE NEIGHBOUR: 'it returns false'. Refute it at one input. -/
def rulesExactWrong : ChangeSpec := { name := "rulesExact", fn := fun _ => fun
  | [d1, d2, d3] => { results := [.lit (.bool false)], args := [d1, d2, d3] }
  | _ => none }
def RulesExactWrongFalsely : Prop := rulesExactRow.holds Tryd.pinned (OpenSpec.ofChange rulesExactWrong)

/-- 'secateurtop.TopPatterns': WHATEVER THE INPUT: true; the input reads as it did. -/
def topPatternsSpec : ChangeSpec := { name := "topPatterns", fn := fun _ => fun
  | [d1, d2] => { results := [.lit (.bool true)], args := [d1, d2] }
  | _ => none }
def topPatternsRow : OpenClaim := { program := "ytmlbfepibfobaaadoor", sum := "42ffd812fac6edc692927853c12b06504ee08815bc1b829206b431af6c012f18", func := "secateur/secateurtop.TopPatterns", spec := "topPatterns", inPlace := ["internal/abi.NoEscape", "internal/bytealg.MakeNoZero", "internal/bytealg.IndexByteString", "internal/bytealg.IndexString", "internal/bytealg.CountString"], unfollowed := true, recurses := true, named := ["internal/bytealg.MaxLen", "unicode/utf8.first", "unicode/utf8.acceptRanges"], apart := false, laid := [("unicode/utf8.acceptRanges", laid_unicode_utf8_acceptRanges), ("unicode/utf8.first", laid_unicode_utf8_first)] }
def TopPatternsSaid : Prop := topPatternsRow.holds Tryd.pinned (OpenSpec.ofChange topPatternsSpec)

/-- ITS FALSE NEIGHBOUR: 'it returns false'. Refute it at one input. -/
def topPatternsWrong : ChangeSpec := { name := "topPatterns", fn := fun _ => fun
  | [d1, d2] => { results := [.lit (.bool false)], args := [d1, d2] }
  | _ => none }
def TopPatternsWrongFalsely : Prop := topPatternsRow.holds Tryd.pinned (OpenSpec.ofChange topPatternsWrong)

/- THE SECOND FORM. 'bulk': how many values and letters a reading holds, each counted each time it is reached (what is shared counts as often as it is met; a slice's spare places count too). A statement '..UptoSaid' is the law's where the arguments, and the package variables that the reading takes, are together of bulk at most 1048576: NARROWER than '..Said'. Prove '..Said' where nothing that the law and all that it calls make is longer than what came in: it says more and counts as full. Else prove '..UptoSaid'. A law counts once. -/
mutual
def uptoBulk {H : Type} : DataW H → Nat
  | .lit (.string bytes) => bytes.length + 1
  | .lit _ => 1
  | .nil => 1
  | .ptr d => uptoBulk d + 1
  | .slice elems spare => uptoBulkAll elems + uptoBulkAll spare + 1
  | .agg parts => uptoBulkAll parts + 1
  | .iface _ d => uptoBulk d + 1
  | .map entries => uptoBulkEntries entries + 1
  | .held _ => 1
def uptoBulkAll {H : Type} : List (DataW H) → Nat
  | [] => 0
  | d :: r => uptoBulk d + uptoBulkAll r
def uptoBulkEntries {H : Type} : List (Lit × DataW H) → Nat
  | [] => 0
  | x :: r => uptoBulkEntry x + uptoBulkEntries r
def uptoBulkEntry {H : Type} : Lit × DataW H → Nat
  | (.string bytes, d) => bytes.length + uptoBulk d + 1
  | (_, d) => uptoBulk d + 1
 end
def uptoSmall : (H : Type) → List (DataW H) → Bool := fun _ ds => decide (uptoBulkAll ds ≤ 1048576)
def OpenSpec.upto (s : _root_.Go.ChangeSpec) : _root_.Go.OpenSpec := { _root_.Go.OpenSpec.ofChange s with cond := some uptoSmall }

/-- 'secateurlaw03.WireFlips', WHERE WHAT IT READS IS OF BULK AT MOST 1048576: true; the input reads as it did. -/
def wireFlipsUptoRow : OpenClaim := { program := "ytmlbfepibfobaaadoor", sum := "42ffd812fac6edc692927853c12b06504ee08815bc1b829206b431af6c012f18", func := "secateur/secateurlaw03.WireFlips", spec := "wireFlips", named := ["secateur/crc.four"], apart := false, laid := [("secateur/crc.four", laid_secateur_crc_four)], narrowed := true }
def WireFlipsUptoSaid : Prop := wireFlipsUptoRow.holds Tryd.pinned (OpenSpec.upto wireFlipsSpec)

/-- 'secateurlaw03.WireWrites', WHERE WHAT IT READS IS OF BULK AT MOST 1048576: true; the input reads as it did. -/
def wireWritesUptoRow : OpenClaim := { program := "ytmlbfepibfobaaadoor", sum := "42ffd812fac6edc692927853c12b06504ee08815bc1b829206b431af6c012f18", func := "secateur/secateurlaw03.WireWrites", spec := "wireWrites", named := ["secateur/crc.four"], apart := false, laid := [("secateur/crc.four", laid_secateur_crc_four)], narrowed := true }
def WireWritesUptoSaid : Prop := wireWritesUptoRow.holds Tryd.pinned (OpenSpec.upto wireWritesSpec)

/-- 'secateurlaw03.WireBack', WHERE WHAT IT READS IS OF BULK AT MOST 1048576: true; the input reads as it did. -/
def wireBackUptoRow : OpenClaim := { program := "ytmlbfepibfobaaadoor", sum := "42ffd812fac6edc692927853c12b06504ee08815bc1b829206b431af6c012f18", func := "secateur/secateurlaw03.WireBack", spec := "wireBack", named := ["secateur/crc.four"], apart := false, laid := [("secateur/crc.four", laid_secateur_crc_four)], narrowed := true }
def WireBackUptoSaid : Prop := wireBackUptoRow.holds Tryd.pinned (OpenSpec.upto wireBackSpec)

/-- 'secateurlaw03.WireReads', WHERE WHAT IT READS IS OF BULK AT MOST 1048576: true; the input reads as it did. -/
def wireReadsUptoRow : OpenClaim := { program := "ytmlbfepibfobaaadoor", sum := "42ffd812fac6edc692927853c12b06504ee08815bc1b829206b431af6c012f18", func := "secateur/secateurlaw03.WireReads", spec := "wireReads", named := ["secateur/crc.four"], apart := false, laid := [("secateur/crc.four", laid_secateur_crc_four)], narrowed := true }
def WireReadsUptoSaid : Prop := wireReadsUptoRow.holds Tryd.pinned (OpenSpec.upto wireReadsSpec)

/-- 'secateurlaw03.WireStays', WHERE WHAT IT READS IS OF BULK AT MOST 1048576: true; the input reads as it did. -/
def wireStaysUptoRow : OpenClaim := { program := "ytmlbfepibfobaaadoor", sum := "42ffd812fac6edc692927853c12b06504ee08815bc1b829206b431af6c012f18", func := "secateur/secateurlaw03.WireStays", spec := "wireStays", named := ["secateur/crc.four"], apart := false, laid := [("secateur/crc.four", laid_secateur_crc_four)], narrowed := true }
def WireStaysUptoSaid : Prop := wireStaysUptoRow.holds Tryd.pinned (OpenSpec.upto wireStaysSpec)

/-- 'secateurtop.TopLines', WHERE WHAT IT READS IS OF BULK AT MOST 1048576: true; the input reads as it did. -/
def topLinesUptoRow : OpenClaim := { program := "ytmlbfepibfobaaadoor", sum := "42ffd812fac6edc692927853c12b06504ee08815bc1b829206b431af6c012f18", func := "secateur/secateurtop.TopLines", spec := "topLines", inPlace := ["internal/bytealg.IndexByteString", "internal/bytealg.IndexString", "internal/abi.NoEscape"], unfollowed := true, recurses := true, named := ["internal/bytealg.MaxLen", "secateur/crc.four"], apart := false, laid := [("secateur/crc.four", laid_secateur_crc_four)], narrowed := true }
def TopLinesUptoSaid : Prop := topLinesUptoRow.holds Tryd.pinned (OpenSpec.upto topLinesSpec)

/-- 'secateurlaw04.WordLines', WHERE WHAT IT READS IS OF BULK AT MOST 1048576: true; the input reads as it did. -/
def wordLinesUptoRow : OpenClaim := { program := "ytmlbfepibfobaaadoor", sum := "42ffd812fac6edc692927853c12b06504ee08815bc1b829206b431af6c012f18", func := "secateur/secateurlaw04.WordLines", spec := "wordLines", inPlace := ["internal/bytealg.IndexByteString", "internal/bytealg.IndexString", "internal/bytealg.CountString"], unfollowed := true, recurses := true, named := ["internal/bytealg.MaxLen", "unicode/utf8.first", "unicode/utf8.acceptRanges"], apart := false, laid := [("unicode/utf8.acceptRanges", laid_unicode_utf8_acceptRanges), ("unicode/utf8.first", laid_unicode_utf8_first)], narrowed := true }
def WordLinesUptoSaid : Prop := wordLinesUptoRow.holds Tryd.pinned (OpenSpec.upto wordLinesSpec)

/-- 'secateurlaw04.WordBack', WHERE WHAT IT READS IS OF BULK AT MOST 1048576: true; the input reads as it did. -/
def wordBackUptoRow : OpenClaim := { program := "ytmlbfepibfobaaadoor", sum := "42ffd812fac6edc692927853c12b06504ee08815bc1b829206b431af6c012f18", func := "secateur/secateurlaw04.WordBack", spec := "wordBack", inPlace := ["internal/bytealg.IndexByteString", "internal/bytealg.IndexString", "internal/abi.NoEscape", "internal/bytealg.CountString", "internal/bytealg.MakeNoZero"], unfollowed := true, recurses := true, named := ["internal/bytealg.MaxLen", "unicode/utf8.first", "unicode/utf8.acceptRanges"], apart := false, laid := [("unicode/utf8.acceptRanges", laid_unicode_utf8_acceptRanges), ("unicode/utf8.first", laid_unicode_utf8_first)], narrowed := true }
def WordBackUptoSaid : Prop := wordBackUptoRow.holds Tryd.pinned (OpenSpec.upto wordBackSpec)

/-- 'secateurlaw22.RulesTexts', WHERE WHAT IT READS IS OF BULK AT MOST 1048576: true; the input reads as it did. -/
def rulesTextsUptoRow : OpenClaim := { program := "ytmlbfepibfobaaadoor", sum := "42ffd812fac6edc692927853c12b06504ee08815bc1b829206b431af6c012f18", func := "secateur/secateurlaw22.RulesTexts", spec := "rulesTexts", inPlace := ["internal/bytealg.IndexByteString", "internal/bytealg.IndexString", "internal/bytealg.CountString", "internal/abi.NoEscape", "internal/bytealg.MakeNoZero"], unfollowed := true, recurses := true, named := ["internal/bytealg.MaxLen", "unicode/utf8.first", "unicode/utf8.acceptRanges"], apart := false, laid := [("unicode/utf8.acceptRanges", laid_unicode_utf8_acceptRanges), ("unicode/utf8.first", laid_unicode_utf8_first)], narrowed := true }
def RulesTextsUptoSaid : Prop := rulesTextsUptoRow.holds Tryd.pinned (OpenSpec.upto rulesTextsSpec)

/-- 'secateurlaw22.RulesBack', WHERE WHAT IT READS IS OF BULK AT MOST 1048576: true; the input reads as it did. -/
def rulesBackUptoRow : OpenClaim := { program := "ytmlbfepibfobaaadoor", sum := "42ffd812fac6edc692927853c12b06504ee08815bc1b829206b431af6c012f18", func := "secateur/secateurlaw22.RulesBack", spec := "rulesBack", inPlace := ["internal/bytealg.IndexByteString", "internal/bytealg.IndexString", "internal/bytealg.CountString", "internal/abi.NoEscape", "internal/bytealg.MakeNoZero"], unfollowed := true, recurses := true, named := ["internal/bytealg.MaxLen", "unicode/utf8.first", "unicode/utf8.acceptRanges"], apart := false, laid := [("unicode/utf8.acceptRanges", laid_unicode_utf8_acceptRanges), ("unicode/utf8.first", laid_unicode_utf8_first)], narrowed := true }
def RulesBackUptoSaid : Prop := rulesBackUptoRow.holds Tryd.pinned (OpenSpec.upto rulesBackSpec)

/-- 'secateurlaw22.RulesMatch', WHERE WHAT IT READS IS OF BULK AT MOST 1048576: true; the input reads as it did. -/
def rulesMatchUptoRow : OpenClaim := { program := "ytmlbfepibfobaaadoor", sum := "42ffd812fac6edc692927853c12b06504ee08815bc1b829206b431af6c012f18", func := "secateur/secateurlaw22.RulesMatch", spec := "rulesMatch", inPlace := ["internal/bytealg.IndexByteString", "internal/bytealg.IndexString", "internal/bytealg.CountString", "internal/abi.NoEscape", "internal/bytealg.MakeNoZero"], unfollowed := true, recurses := true, named := ["internal/bytealg.MaxLen", "unicode/utf8.first", "unicode/utf8.acceptRanges"], apart := false, laid := [("unicode/utf8.acceptRanges", laid_unicode_utf8_acceptRanges), ("unicode/utf8.first", laid_unicode_utf8_first)], narrowed := true }
def RulesMatchUptoSaid : Prop := rulesMatchUptoRow.holds Tryd.pinned (OpenSpec.upto rulesMatchSpec)

/-- 'secateurlaw22.RulesExact', WHERE WHAT IT READS IS OF BULK AT MOST 1048576: true; the input reads as it did. -/
def rulesExactUptoRow : OpenClaim := { program := "ytmlbfepibfobaaadoor", sum := "42ffd812fac6edc692927853c12b06504ee08815bc1b829206b431af6c012f18", func := "secateur/secateurlaw22.RulesExact", spec := "rulesExact", inPlace := ["internal/bytealg.IndexByteString", "internal/bytealg.IndexString", "internal/bytealg.CountString", "internal/abi.NoEscape", "internal/bytealg.MakeNoZero"], unfollowed := true, recurses := true, named := ["internal/bytealg.MaxLen", "unicode/utf8.first", "unicode/utf8.acceptRanges"], apart := false, laid := [("unicode/utf8.acceptRanges", laid_unicode_utf8_acceptRanges), ("unicode/utf8.first", laid_unicode_utf8_first)], narrowed := true }
def RulesExactUptoSaid : Prop := rulesExactUptoRow.holds Tryd.pinned (OpenSpec.upto rulesExactSpec)

/-- 'secateurtop.TopPatterns', WHERE WHAT IT READS IS OF BULK AT MOST 1048576: true; the input reads as it did. -/
def topPatternsUptoRow : OpenClaim := { program := "ytmlbfepibfobaaadoor", sum := "42ffd812fac6edc692927853c12b06504ee08815bc1b829206b431af6c012f18", func := "secateur/secateurtop.TopPatterns", spec := "topPatterns", inPlace := ["internal/abi.NoEscape", "internal/bytealg.MakeNoZero", "internal/bytealg.IndexByteString", "internal/bytealg.IndexString", "internal/bytealg.CountString"], unfollowed := true, recurses := true, named := ["internal/bytealg.MaxLen", "unicode/utf8.first", "unicode/utf8.acceptRanges"], apart := false, laid := [("unicode/utf8.acceptRanges", laid_unicode_utf8_acceptRanges), ("unicode/utf8.first", laid_unicode_utf8_first)], narrowed := true }
def TopPatternsUptoSaid : Prop := topPatternsUptoRow.holds Tryd.pinned (OpenSpec.upto topPatternsSpec)

end Rows
end Go.Proofs.YtmlbfepibfobaaaDoor
