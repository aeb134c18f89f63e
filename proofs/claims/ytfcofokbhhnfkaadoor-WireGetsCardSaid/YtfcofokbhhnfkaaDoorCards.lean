/-
  DERIVED. GIVEN WITH THE SEED: THE CARDS: each row of YtfcofokbhhnfkaaDoorRows.lean that lists a variable, with what it lists TIED to the program's text (the seventh form; the later family's looks); each row that meets fmt, with fmt's text TOLD by the authors' own Lean function (tested against real Go, not proved from fmt's source: count such statements apart). THE CARD IS WHAT COUNTS. Prove the row's statement (the work); the ties are given (YtfcofokbhhnfkaaDoorTie.lean); close each card by the builder's one call (the guide's Derived/Test/ToyasCard.lean, 'card_holds'). Laid BY PROGRAM, IN A SANDBOX (cutbox-door.mjs). By AI agents, Wed Nov 11 2026. No macro, syntax, notation, axiom, sorry.
-/
import Derived.Test.YtfcofokbhhnfkaaDoorRows
import GoSem.ClaimSeven
namespace Go.Proofs.YtfcofokbhhnfkaaDoor
namespace Rows

/-- THE TIED CARD OF 'geyserlaw16.WireChecks'. -/
def wireChecksCard : Claim7 := { stood := { row := wireChecksRow, standIns := [], harness := (true, "7fe2a7c7009fcba1d35c2ab1e22be6a431886e23cca82ccbd00442dd8bd8444c"), looks := true }, kinds := [], alts := [], laidByText := true, laidKinds := [.handle], laidTests := true, laidLooks := .later }
def WireChecksCardSaid : Prop := Claim7.holds Tryd.pinned (.plain (OpenSpec.ofChange wireChecksSpec)) wireChecksCard

/-- THE TIED CARD OF 'geyserlaw16.WirePuts'. -/
def wirePutsCard : Claim7 := { stood := { row := wirePutsRow, standIns := [], harness := (true, "7fe2a7c7009fcba1d35c2ab1e22be6a431886e23cca82ccbd00442dd8bd8444c"), looks := true }, kinds := [], alts := [], laidByText := true, laidKinds := [.handle], laidTests := true, laidLooks := .later }
def WirePutsCardSaid : Prop := Claim7.holds Tryd.pinned (.plain (OpenSpec.ofChange wirePutsSpec)) wirePutsCard

/-- THE TIED CARD OF 'geyserlaw16.WireGets'. -/
def wireGetsCard : Claim7 := { stood := { row := wireGetsRow, standIns := [], harness := (true, "7fe2a7c7009fcba1d35c2ab1e22be6a431886e23cca82ccbd00442dd8bd8444c"), looks := true }, kinds := [], alts := [], laidByText := true, laidKinds := [.handle], laidTests := true, laidLooks := .later }
def WireGetsCardSaid : Prop := Claim7.holds Tryd.pinned (.plain (OpenSpec.ofChange wireGetsSpec)) wireGetsCard

/-- THE TIED CARD OF 'geyserlaw16.WireSpoilt'. -/
def wireSpoiltCard : Claim7 := { stood := { row := wireSpoiltRow, standIns := [], harness := (true, "7fe2a7c7009fcba1d35c2ab1e22be6a431886e23cca82ccbd00442dd8bd8444c"), looks := true }, kinds := [], alts := [], laidByText := true, laidKinds := [.handle], laidTests := true, laidLooks := .later }
def WireSpoiltCardSaid : Prop := Claim7.holds Tryd.pinned (.plain (OpenSpec.ofChange wireSpoiltSpec)) wireSpoiltCard

/-- THE SECOND FORM's CARD OF 'geyserlaw16.WireChecks'. -/
def wireChecksUptoCard : Claim7 := { stood := { row := wireChecksUptoRow, standIns := [], harness := (true, "7fe2a7c7009fcba1d35c2ab1e22be6a431886e23cca82ccbd00442dd8bd8444c"), looks := true }, kinds := [], alts := [], laidByText := true, laidKinds := [.handle], laidTests := true, laidLooks := .later }
def WireChecksUptoCardSaid : Prop := Claim7.holds Tryd.pinned (.plain (OpenSpec.upto wireChecksSpec)) wireChecksUptoCard

/-- THE SECOND FORM's CARD OF 'geyserlaw16.WirePuts'. -/
def wirePutsUptoCard : Claim7 := { stood := { row := wirePutsUptoRow, standIns := [], harness := (true, "7fe2a7c7009fcba1d35c2ab1e22be6a431886e23cca82ccbd00442dd8bd8444c"), looks := true }, kinds := [], alts := [], laidByText := true, laidKinds := [.handle], laidTests := true, laidLooks := .later }
def WirePutsUptoCardSaid : Prop := Claim7.holds Tryd.pinned (.plain (OpenSpec.upto wirePutsSpec)) wirePutsUptoCard

/-- THE SECOND FORM's CARD OF 'geyserlaw16.WireGets'. -/
def wireGetsUptoCard : Claim7 := { stood := { row := wireGetsUptoRow, standIns := [], harness := (true, "7fe2a7c7009fcba1d35c2ab1e22be6a431886e23cca82ccbd00442dd8bd8444c"), looks := true }, kinds := [], alts := [], laidByText := true, laidKinds := [.handle], laidTests := true, laidLooks := .later }
def WireGetsUptoCardSaid : Prop := Claim7.holds Tryd.pinned (.plain (OpenSpec.upto wireGetsSpec)) wireGetsUptoCard

/-- THE SECOND FORM's CARD OF 'geyserlaw16.WireSpoilt'. -/
def wireSpoiltUptoCard : Claim7 := { stood := { row := wireSpoiltUptoRow, standIns := [], harness := (true, "7fe2a7c7009fcba1d35c2ab1e22be6a431886e23cca82ccbd00442dd8bd8444c"), looks := true }, kinds := [], alts := [], laidByText := true, laidKinds := [.handle], laidTests := true, laidLooks := .later }
def WireSpoiltUptoCardSaid : Prop := Claim7.holds Tryd.pinned (.plain (OpenSpec.upto wireSpoiltSpec)) wireSpoiltUptoCard
end Rows
end Go.Proofs.YtfcofokbhhnfkaaDoor
