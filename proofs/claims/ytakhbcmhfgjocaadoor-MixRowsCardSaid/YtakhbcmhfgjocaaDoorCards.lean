/-
  DERIVED. GIVEN WITH THE SEED: THE CARDS: each row of YtakhbcmhfgjocaaDoorRows.lean that lists a variable, with what it lists TIED to the program's text (the seventh form; the later family's looks); each row that meets fmt, with fmt's text TOLD by the authors' own Lean function (tested against real Go, not proved from fmt's source: count such statements apart). THE CARD IS WHAT COUNTS. Prove the row's statement (the work); the ties are given (YtakhbcmhfgjocaaDoorTie.lean); close each card by the builder's one call (the guide's Derived/Test/ToyasCard.lean, 'card_holds'). Laid BY PROGRAM, IN A SANDBOX (cutbox-door.mjs). By AI agents, Wed Nov 11 2026. No macro, syntax, notation, axiom, sorry.
-/
import Derived.Test.YtakhbcmhfgjocaaDoorRows
import GoSem.ClaimSeven
namespace Go.Proofs.YtakhbcmhfgjocaaDoor
namespace Rows

/-- THE TIED CARD OF 'geyserlaw06.MixBelow'. -/
def mixBelowCard : Claim7 := { stood := { row := mixBelowRow, standIns := [], harness := (true, "8a4ce143a42a6c71837a7cd3ad2bf1af54dea53b547599cc34de1277f7c09d29"), looks := true }, kinds := [], alts := [], laidByText := true, laidKinds := [.handle], laidTests := true, laidLooks := .later }
def MixBelowCardSaid : Prop := Claim7.holds Tryd.pinned (.plain (OpenSpec.ofChange mixBelowSpec)) mixBelowCard

/-- THE TIED CARD OF 'geyserlaw06.MixRows'. -/
def mixRowsCard : Claim7 := { stood := { row := mixRowsRow, standIns := [], harness := (true, "8a4ce143a42a6c71837a7cd3ad2bf1af54dea53b547599cc34de1277f7c09d29"), looks := true }, kinds := [], alts := [], laidByText := true, laidKinds := [.handle], laidTests := true, laidLooks := .later }
def MixRowsCardSaid : Prop := Claim7.holds Tryd.pinned (.plain (OpenSpec.ofChange mixRowsSpec)) mixRowsCard

/-- THE SECOND FORM's CARD OF 'geyserlaw06.MixBelow'. -/
def mixBelowUptoCard : Claim7 := { stood := { row := mixBelowUptoRow, standIns := [], harness := (true, "8a4ce143a42a6c71837a7cd3ad2bf1af54dea53b547599cc34de1277f7c09d29"), looks := true }, kinds := [], alts := [], laidByText := true, laidKinds := [.handle], laidTests := true, laidLooks := .later }
def MixBelowUptoCardSaid : Prop := Claim7.holds Tryd.pinned (.plain (OpenSpec.upto mixBelowSpec)) mixBelowUptoCard

/-- THE SECOND FORM's CARD OF 'geyserlaw06.MixRows'. -/
def mixRowsUptoCard : Claim7 := { stood := { row := mixRowsUptoRow, standIns := [], harness := (true, "8a4ce143a42a6c71837a7cd3ad2bf1af54dea53b547599cc34de1277f7c09d29"), looks := true }, kinds := [], alts := [], laidByText := true, laidKinds := [.handle], laidTests := true, laidLooks := .later }
def MixRowsUptoCardSaid : Prop := Claim7.holds Tryd.pinned (.plain (OpenSpec.upto mixRowsSpec)) mixRowsUptoCard
end Rows
end Go.Proofs.YtakhbcmhfgjocaaDoor
