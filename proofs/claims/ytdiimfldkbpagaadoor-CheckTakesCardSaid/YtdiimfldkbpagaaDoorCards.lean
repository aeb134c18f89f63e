/-
  DERIVED. GIVEN WITH THE SEED: THE CARDS: each row of YtdiimfldkbpagaaDoorRows.lean that lists a variable, with what it lists TIED to the program's text (the seventh form; the later family's looks); each row that meets fmt, with fmt's text TOLD by the authors' own Lean function (tested against real Go, not proved from fmt's source: count such statements apart). THE CARD IS WHAT COUNTS. Prove the row's statement (the work); the ties are given (YtdiimfldkbpagaaDoorTie.lean); close each card by the builder's one call (the guide's Derived/Test/ToyasCard.lean, 'card_holds'). Laid BY PROGRAM, IN A SANDBOX (cutbox-door.mjs). By AI agents, Wed Nov 11 2026. No macro, syntax, notation, axiom, sorry.
-/
import Derived.Test.YtdiimfldkbpagaaDoorRows
import GoSem.ClaimSeven
namespace Go.Proofs.YtdiimfldkbpagaaDoor
namespace Rows

/-- THE TIED CARD OF 'geyserlaw15.CheckTakes'. -/
def checkTakesCard : Claim7 := { stood := { row := checkTakesRow, standIns := [], harness := (true, "e81103e2415fa47af428ab1825c7c54b5aa4d478b10f75f01af0254a13aaff74"), looks := true }, kinds := [], alts := [], laidByText := true, laidKinds := [.handle], laidTests := true, laidLooks := .later }
def CheckTakesCardSaid : Prop := Claim7.holds Tryd.pinned (.plain (OpenSpec.ofChange checkTakesSpec)) checkTakesCard

/-- THE TIED CARD OF 'geyserlaw15.CheckSpoils'. -/
def checkSpoilsCard : Claim7 := { stood := { row := checkSpoilsRow, standIns := [], harness := (true, "e81103e2415fa47af428ab1825c7c54b5aa4d478b10f75f01af0254a13aaff74"), looks := true }, kinds := [], alts := [], laidByText := true, laidKinds := [.handle], laidTests := true, laidLooks := .later }
def CheckSpoilsCardSaid : Prop := Claim7.holds Tryd.pinned (.plain (OpenSpec.ofChange checkSpoilsSpec)) checkSpoilsCard

/-- THE TIED CARD OF 'geyserlaw15.CheckBursts'. -/
def checkBurstsCard : Claim7 := { stood := { row := checkBurstsRow, standIns := [], harness := (true, "e81103e2415fa47af428ab1825c7c54b5aa4d478b10f75f01af0254a13aaff74"), looks := true }, kinds := [], alts := [], laidByText := true, laidKinds := [.handle], laidTests := true, laidLooks := .later }
def CheckBurstsCardSaid : Prop := Claim7.holds Tryd.pinned (.plain (OpenSpec.ofChange checkBurstsSpec)) checkBurstsCard

/-- THE SECOND FORM's CARD OF 'geyserlaw15.CheckTakes'. -/
def checkTakesUptoCard : Claim7 := { stood := { row := checkTakesUptoRow, standIns := [], harness := (true, "e81103e2415fa47af428ab1825c7c54b5aa4d478b10f75f01af0254a13aaff74"), looks := true }, kinds := [], alts := [], laidByText := true, laidKinds := [.handle], laidTests := true, laidLooks := .later }
def CheckTakesUptoCardSaid : Prop := Claim7.holds Tryd.pinned (.plain (OpenSpec.upto checkTakesSpec)) checkTakesUptoCard

/-- THE SECOND FORM's CARD OF 'geyserlaw15.CheckSpoils'. -/
def checkSpoilsUptoCard : Claim7 := { stood := { row := checkSpoilsUptoRow, standIns := [], harness := (true, "e81103e2415fa47af428ab1825c7c54b5aa4d478b10f75f01af0254a13aaff74"), looks := true }, kinds := [], alts := [], laidByText := true, laidKinds := [.handle], laidTests := true, laidLooks := .later }
def CheckSpoilsUptoCardSaid : Prop := Claim7.holds Tryd.pinned (.plain (OpenSpec.upto checkSpoilsSpec)) checkSpoilsUptoCard

/-- THE SECOND FORM's CARD OF 'geyserlaw15.CheckBursts'. -/
def checkBurstsUptoCard : Claim7 := { stood := { row := checkBurstsUptoRow, standIns := [], harness := (true, "e81103e2415fa47af428ab1825c7c54b5aa4d478b10f75f01af0254a13aaff74"), looks := true }, kinds := [], alts := [], laidByText := true, laidKinds := [.handle], laidTests := true, laidLooks := .later }
def CheckBurstsUptoCardSaid : Prop := Claim7.holds Tryd.pinned (.plain (OpenSpec.upto checkBurstsSpec)) checkBurstsUptoCard
end Rows
end Go.Proofs.YtdiimfldkbpagaaDoor
