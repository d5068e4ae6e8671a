/-
  DERIVED. GIVEN WITH THE SEED: THE CARDS: each row of YtjdpejggafefjaaDoorRows.lean that lists a variable, with what it lists TIED to the program's text (the seventh form; the later family's looks); each row that meets fmt, with fmt's text TOLD by the authors' own Lean function (tested against real Go, not proved from fmt's source: count such statements apart). THE CARD IS WHAT COUNTS. Prove the row's statement (the work); the ties are given (YtjdpejggafefjaaDoorTie.lean); close each card by the builder's one call (the guide's Derived/Test/ToyasCard.lean, 'card_holds'). Laid BY PROGRAM, IN A SANDBOX (cutbox-door.mjs). By AI agents, Wed Nov 11 2026. No macro, syntax, notation, axiom, sorry.
-/
import Derived.Test.YtjdpejggafefjaaDoorRows
import GoSem.ClaimSeven
namespace Go.Proofs.YtjdpejggafefjaaDoor
namespace Rows

/-- THE TIED CARD OF 'forebaylaw38.PictureTexts'. -/
def pictureTextsCard : Claim7 := { stood := { row := pictureTextsRow, standIns := [], harness := (true, "53579756343569d3a9ba6e5710604afed657479d28827cf90740a117b4ffdf45"), looks := false }, kinds := [], alts := [], laidByText := true, laidKinds := [.data, .data, .data], laidTests := true, laidLooks := .later }
def PictureTextsCardSaid : Prop := Claim7.holds Tryd.pinned (.plain (OpenSpec.ofChange pictureTextsSpec)) pictureTextsCard

/-- THE TIED CARD OF 'forebaylaw38.PictureReads'. -/
def pictureReadsCard : Claim7 := { stood := { row := pictureReadsRow, standIns := [], harness := (true, "53579756343569d3a9ba6e5710604afed657479d28827cf90740a117b4ffdf45"), looks := false }, kinds := [], alts := [], laidByText := true, laidKinds := [.data, .data, .data], laidTests := true, laidLooks := .later }
def PictureReadsCardSaid : Prop := Claim7.holds Tryd.pinned (.plain (OpenSpec.ofChange pictureReadsSpec)) pictureReadsCard

/-- THE TIED CARD OF 'forebaylaw38.PictureSizes'. -/
def pictureSizesCard : Claim7 := { stood := { row := pictureSizesRow, standIns := [], harness := (true, "53579756343569d3a9ba6e5710604afed657479d28827cf90740a117b4ffdf45"), looks := false }, kinds := [], alts := [], laidByText := true, laidKinds := [.data, .data, .data], laidTests := true, laidLooks := .later }
def PictureSizesCardSaid : Prop := Claim7.holds Tryd.pinned (.plain (OpenSpec.ofChange pictureSizesSpec)) pictureSizesCard

/-- THE TIED CARD OF 'forebaylaw05.WordsNumbers'. -/
def wordsNumbersCard : Claim7 := { stood := { row := wordsNumbersRow, standIns := [], harness := (true, "53579756343569d3a9ba6e5710604afed657479d28827cf90740a117b4ffdf45"), looks := false }, kinds := [], alts := [], laidByText := true, laidKinds := [.data, .data, .data, .data, .pinned], laidTests := true, laidLooks := .later }
def WordsNumbersCardSaid : Prop := Claim7.holds Tryd.pinned (.plain (OpenSpec.ofChange wordsNumbersSpec)) wordsNumbersCard

/-- THE TIED CARD OF 'forebaylaw05.WordsLists'. -/
def wordsListsCard : Claim7 := { stood := { row := wordsListsRow, standIns := [], harness := (true, "53579756343569d3a9ba6e5710604afed657479d28827cf90740a117b4ffdf45"), looks := false }, kinds := [], alts := [], laidByText := true, laidKinds := [.data, .data, .data, .data, .pinned], laidTests := true, laidLooks := .later }
def WordsListsCardSaid : Prop := Claim7.holds Tryd.pinned (.plain (OpenSpec.ofChange wordsListsSpec)) wordsListsCard

/-- THE TIED CARD OF 'forebaylaw06.AsmLines'. -/
def asmLinesCard : Claim7 := { stood := { row := asmLinesRow, standIns := [], harness := (true, "53579756343569d3a9ba6e5710604afed657479d28827cf90740a117b4ffdf45"), looks := false }, kinds := [], alts := [], laidByText := true, laidKinds := [.data, .data, .data], laidTests := true, laidLooks := .later }
def AsmLinesCardSaid : Prop := Claim7.holds Tryd.pinned (.plain (OpenSpec.ofChange asmLinesSpec)) asmLinesCard

/-- THE TIED CARD OF 'forebaylaw06.AsmReads'. -/
def asmReadsCard : Claim7 := { stood := { row := asmReadsRow, standIns := [], harness := (true, "53579756343569d3a9ba6e5710604afed657479d28827cf90740a117b4ffdf45"), looks := false }, kinds := [], alts := [], laidByText := true, laidKinds := [.data, .data, .data], laidTests := true, laidLooks := .later }
def AsmReadsCardSaid : Prop := Claim7.holds Tryd.pinned (.plain (OpenSpec.ofChange asmReadsSpec)) asmReadsCard

/-- THE TIED CARD OF 'forebaylaw05.WordsLines'. -/
def wordsLinesCard : Claim7 := { stood := { row := wordsLinesRow, standIns := [], harness := (true, "53579756343569d3a9ba6e5710604afed657479d28827cf90740a117b4ffdf45"), looks := false }, kinds := [], alts := [], laidByText := true, laidKinds := [.data, .data, .data, .data, .pinned], laidTests := true, laidLooks := .later }
def WordsLinesCardSaid : Prop := Claim7.holds Tryd.pinned (.plain (OpenSpec.ofChange wordsLinesSpec)) wordsLinesCard

/-- THE TIED CARD OF 'forebaylaw05.WordsBack'. -/
def wordsBackCard : Claim7 := { stood := { row := wordsBackRow, standIns := [], harness := (true, "53579756343569d3a9ba6e5710604afed657479d28827cf90740a117b4ffdf45"), looks := false }, kinds := [], alts := [], laidByText := true, laidKinds := [.data, .data, .data, .data, .pinned], laidTests := true, laidLooks := .later }
def WordsBackCardSaid : Prop := Claim7.holds Tryd.pinned (.plain (OpenSpec.ofChange wordsBackSpec)) wordsBackCard

/-- THE TIED CARD OF 'forebaylaw06.AsmTexts'. -/
def asmTextsCard : Claim7 := { stood := { row := asmTextsRow, standIns := [], harness := (true, "53579756343569d3a9ba6e5710604afed657479d28827cf90740a117b4ffdf45"), looks := false }, kinds := [], alts := [], laidByText := true, laidKinds := [.data, .data, .data], laidTests := true, laidLooks := .later }
def AsmTextsCardSaid : Prop := Claim7.holds Tryd.pinned (.plain (OpenSpec.ofChange asmTextsSpec)) asmTextsCard

/-- THE TIED CARD OF 'forebaylaw06.AsmLoose'. -/
def asmLooseCard : Claim7 := { stood := { row := asmLooseRow, standIns := [], harness := (true, "53579756343569d3a9ba6e5710604afed657479d28827cf90740a117b4ffdf45"), looks := false }, kinds := [], alts := [], laidByText := true, laidKinds := [.data, .data, .data], laidTests := true, laidLooks := .later }
def AsmLooseCardSaid : Prop := Claim7.holds Tryd.pinned (.plain (OpenSpec.ofChange asmLooseSpec)) asmLooseCard

/-- THE TIED CARD OF 'forebaylaw06.AsmSizes'. -/
def asmSizesCard : Claim7 := { stood := { row := asmSizesRow, standIns := [], harness := (true, "53579756343569d3a9ba6e5710604afed657479d28827cf90740a117b4ffdf45"), looks := false }, kinds := [], alts := [], laidByText := true, laidKinds := [.data, .data, .data], laidTests := true, laidLooks := .later }
def AsmSizesCardSaid : Prop := Claim7.holds Tryd.pinned (.plain (OpenSpec.ofChange asmSizesSpec)) asmSizesCard

/-- THE SECOND FORM's CARD OF 'forebaylaw38.PictureTexts'. -/
def pictureTextsUptoCard : Claim7 := { stood := { row := pictureTextsUptoRow, standIns := [], harness := (true, "53579756343569d3a9ba6e5710604afed657479d28827cf90740a117b4ffdf45"), looks := false }, kinds := [], alts := [], laidByText := true, laidKinds := [.data, .data, .data], laidTests := true, laidLooks := .later }
def PictureTextsUptoCardSaid : Prop := Claim7.holds Tryd.pinned (.plain (OpenSpec.upto pictureTextsSpec)) pictureTextsUptoCard

/-- THE SECOND FORM's CARD OF 'forebaylaw38.PictureReads'. -/
def pictureReadsUptoCard : Claim7 := { stood := { row := pictureReadsUptoRow, standIns := [], harness := (true, "53579756343569d3a9ba6e5710604afed657479d28827cf90740a117b4ffdf45"), looks := false }, kinds := [], alts := [], laidByText := true, laidKinds := [.data, .data, .data], laidTests := true, laidLooks := .later }
def PictureReadsUptoCardSaid : Prop := Claim7.holds Tryd.pinned (.plain (OpenSpec.upto pictureReadsSpec)) pictureReadsUptoCard

/-- THE SECOND FORM's CARD OF 'forebaylaw38.PictureSizes'. -/
def pictureSizesUptoCard : Claim7 := { stood := { row := pictureSizesUptoRow, standIns := [], harness := (true, "53579756343569d3a9ba6e5710604afed657479d28827cf90740a117b4ffdf45"), looks := false }, kinds := [], alts := [], laidByText := true, laidKinds := [.data, .data, .data], laidTests := true, laidLooks := .later }
def PictureSizesUptoCardSaid : Prop := Claim7.holds Tryd.pinned (.plain (OpenSpec.upto pictureSizesSpec)) pictureSizesUptoCard

/-- THE SECOND FORM's CARD OF 'forebaylaw05.WordsNumbers'. -/
def wordsNumbersUptoCard : Claim7 := { stood := { row := wordsNumbersUptoRow, standIns := [], harness := (true, "53579756343569d3a9ba6e5710604afed657479d28827cf90740a117b4ffdf45"), looks := false }, kinds := [], alts := [], laidByText := true, laidKinds := [.data, .data, .data, .data, .pinned], laidTests := true, laidLooks := .later }
def WordsNumbersUptoCardSaid : Prop := Claim7.holds Tryd.pinned (.plain (OpenSpec.upto wordsNumbersSpec)) wordsNumbersUptoCard

/-- THE SECOND FORM's CARD OF 'forebaylaw05.WordsLists'. -/
def wordsListsUptoCard : Claim7 := { stood := { row := wordsListsUptoRow, standIns := [], harness := (true, "53579756343569d3a9ba6e5710604afed657479d28827cf90740a117b4ffdf45"), looks := false }, kinds := [], alts := [], laidByText := true, laidKinds := [.data, .data, .data, .data, .pinned], laidTests := true, laidLooks := .later }
def WordsListsUptoCardSaid : Prop := Claim7.holds Tryd.pinned (.plain (OpenSpec.upto wordsListsSpec)) wordsListsUptoCard

/-- THE SECOND FORM's CARD OF 'forebaylaw06.AsmLines'. -/
def asmLinesUptoCard : Claim7 := { stood := { row := asmLinesUptoRow, standIns := [], harness := (true, "53579756343569d3a9ba6e5710604afed657479d28827cf90740a117b4ffdf45"), looks := false }, kinds := [], alts := [], laidByText := true, laidKinds := [.data, .data, .data], laidTests := true, laidLooks := .later }
def AsmLinesUptoCardSaid : Prop := Claim7.holds Tryd.pinned (.plain (OpenSpec.upto asmLinesSpec)) asmLinesUptoCard

/-- THE SECOND FORM's CARD OF 'forebaylaw06.AsmReads'. -/
def asmReadsUptoCard : Claim7 := { stood := { row := asmReadsUptoRow, standIns := [], harness := (true, "53579756343569d3a9ba6e5710604afed657479d28827cf90740a117b4ffdf45"), looks := false }, kinds := [], alts := [], laidByText := true, laidKinds := [.data, .data, .data], laidTests := true, laidLooks := .later }
def AsmReadsUptoCardSaid : Prop := Claim7.holds Tryd.pinned (.plain (OpenSpec.upto asmReadsSpec)) asmReadsUptoCard

/-- THE SECOND FORM's CARD OF 'forebaylaw05.WordsLines'. -/
def wordsLinesUptoCard : Claim7 := { stood := { row := wordsLinesUptoRow, standIns := [], harness := (true, "53579756343569d3a9ba6e5710604afed657479d28827cf90740a117b4ffdf45"), looks := false }, kinds := [], alts := [], laidByText := true, laidKinds := [.data, .data, .data, .data, .pinned], laidTests := true, laidLooks := .later }
def WordsLinesUptoCardSaid : Prop := Claim7.holds Tryd.pinned (.plain (OpenSpec.upto wordsLinesSpec)) wordsLinesUptoCard

/-- THE SECOND FORM's CARD OF 'forebaylaw05.WordsBack'. -/
def wordsBackUptoCard : Claim7 := { stood := { row := wordsBackUptoRow, standIns := [], harness := (true, "53579756343569d3a9ba6e5710604afed657479d28827cf90740a117b4ffdf45"), looks := false }, kinds := [], alts := [], laidByText := true, laidKinds := [.data, .data, .data, .data, .pinned], laidTests := true, laidLooks := .later }
def WordsBackUptoCardSaid : Prop := Claim7.holds Tryd.pinned (.plain (OpenSpec.upto wordsBackSpec)) wordsBackUptoCard

/-- THE SECOND FORM's CARD OF 'forebaylaw06.AsmTexts'. -/
def asmTextsUptoCard : Claim7 := { stood := { row := asmTextsUptoRow, standIns := [], harness := (true, "53579756343569d3a9ba6e5710604afed657479d28827cf90740a117b4ffdf45"), looks := false }, kinds := [], alts := [], laidByText := true, laidKinds := [.data, .data, .data], laidTests := true, laidLooks := .later }
def AsmTextsUptoCardSaid : Prop := Claim7.holds Tryd.pinned (.plain (OpenSpec.upto asmTextsSpec)) asmTextsUptoCard

/-- THE SECOND FORM's CARD OF 'forebaylaw06.AsmLoose'. -/
def asmLooseUptoCard : Claim7 := { stood := { row := asmLooseUptoRow, standIns := [], harness := (true, "53579756343569d3a9ba6e5710604afed657479d28827cf90740a117b4ffdf45"), looks := false }, kinds := [], alts := [], laidByText := true, laidKinds := [.data, .data, .data], laidTests := true, laidLooks := .later }
def AsmLooseUptoCardSaid : Prop := Claim7.holds Tryd.pinned (.plain (OpenSpec.upto asmLooseSpec)) asmLooseUptoCard

/-- THE SECOND FORM's CARD OF 'forebaylaw06.AsmSizes'. -/
def asmSizesUptoCard : Claim7 := { stood := { row := asmSizesUptoRow, standIns := [], harness := (true, "53579756343569d3a9ba6e5710604afed657479d28827cf90740a117b4ffdf45"), looks := false }, kinds := [], alts := [], laidByText := true, laidKinds := [.data, .data, .data], laidTests := true, laidLooks := .later }
def AsmSizesUptoCardSaid : Prop := Claim7.holds Tryd.pinned (.plain (OpenSpec.upto asmSizesSpec)) asmSizesUptoCard
end Rows
end Go.Proofs.YtjdpejggafefjaaDoor
