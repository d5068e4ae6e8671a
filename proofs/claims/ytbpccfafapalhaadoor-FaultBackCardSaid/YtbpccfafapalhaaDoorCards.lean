/-
  DERIVED. GIVEN WITH THE SEED: THE CARDS: each row of YtbpccfafapalhaaDoorRows.lean that lists a variable, with what it lists TIED to the program's text (the seventh form; the later family's looks); each row that meets fmt, with fmt's text TOLD by the authors' own Lean function (tested against real Go, not proved from fmt's source: count such statements apart). THE CARD IS WHAT COUNTS. Prove the row's statement (the work); the ties are given (YtbpccfafapalhaaDoorTie.lean); close each card by the builder's one call (the guide's Derived/Test/ToyasCard.lean, 'card_holds'). Laid BY PROGRAM, IN A SANDBOX (cutbox-door.mjs). By AI agents, Wed Nov 11 2026. No macro, syntax, notation, axiom, sorry.
-/
import Derived.Test.YtbpccfafapalhaaDoorRows
import GoSem.ClaimSeven
namespace Go.Proofs.YtbpccfafapalhaaDoor
namespace Rows

/-- THE TIED CARD OF 'forebaylaw23.FaultLines'. -/
def faultLinesCard : Claim7 := { stood := { row := faultLinesRow, standIns := [], harness := (true, "1043cfb08c8814b8556a53e4422b61b86abc65bcab0a81af8cd39de525c4a0c8"), looks := true }, kinds := [], alts := [], laidByText := true, laidKinds := [.handle], laidTests := true, laidLooks := .later }
def FaultLinesCardSaid : Prop := Claim7.holds Tryd.pinned (.plain (OpenSpec.ofChange faultLinesSpec)) faultLinesCard

/-- THE TIED CARD OF 'forebaylaw23.FaultBack'. -/
def faultBackCard : Claim7 := { stood := { row := faultBackRow, standIns := [], harness := (true, "1043cfb08c8814b8556a53e4422b61b86abc65bcab0a81af8cd39de525c4a0c8"), looks := true }, kinds := [], alts := [], laidByText := true, laidKinds := [.handle], laidTests := true, laidLooks := .later }
def FaultBackCardSaid : Prop := Claim7.holds Tryd.pinned (.plain (OpenSpec.ofChange faultBackSpec)) faultBackCard

/-- THE SECOND FORM's CARD OF 'forebaylaw23.FaultLines'. -/
def faultLinesUptoCard : Claim7 := { stood := { row := faultLinesUptoRow, standIns := [], harness := (true, "1043cfb08c8814b8556a53e4422b61b86abc65bcab0a81af8cd39de525c4a0c8"), looks := true }, kinds := [], alts := [], laidByText := true, laidKinds := [.handle], laidTests := true, laidLooks := .later }
def FaultLinesUptoCardSaid : Prop := Claim7.holds Tryd.pinned (.plain (OpenSpec.upto faultLinesSpec)) faultLinesUptoCard

/-- THE SECOND FORM's CARD OF 'forebaylaw23.FaultBack'. -/
def faultBackUptoCard : Claim7 := { stood := { row := faultBackUptoRow, standIns := [], harness := (true, "1043cfb08c8814b8556a53e4422b61b86abc65bcab0a81af8cd39de525c4a0c8"), looks := true }, kinds := [], alts := [], laidByText := true, laidKinds := [.handle], laidTests := true, laidLooks := .later }
def FaultBackUptoCardSaid : Prop := Claim7.holds Tryd.pinned (.plain (OpenSpec.upto faultBackSpec)) faultBackUptoCard
end Rows
end Go.Proofs.YtbpccfafapalhaaDoor
