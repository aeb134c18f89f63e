/-
  DERIVED. GIVEN WITH THE SEED: THE CARDS: each row of YtbjojkocmmcpgaaDoorRows.lean that lists a variable, with what it lists TIED to the program's text (the seventh form; the later family's looks); each row that meets fmt, with fmt's text TOLD by the authors' own Lean function (tested against real Go, not proved from fmt's source: count such statements apart). THE CARD IS WHAT COUNTS. Prove the row's statement (the work); the ties are given (YtbjojkocmmcpgaaDoorTie.lean); close each card by the builder's one call (the guide's Derived/Test/ToyasCard.lean, 'card_holds'). Laid BY PROGRAM, IN A SANDBOX (cutbox-door.mjs). By AI agents, Wed Nov 11 2026. No macro, syntax, notation, axiom, sorry.
-/
import Derived.Test.YtbjojkocmmcpgaaDoorRows
import GoSem.ClaimSeven
namespace Go.Proofs.YtbjojkocmmcpgaaDoor
namespace Rows

/-- THE TIED CARD OF 'geyserlaw20.AccountNil'. -/
def accountNilCard : Claim7 := { stood := { row := accountNilRow, standIns := [], harness := (true, "a60249c3f2693ccc70ebadb9622e05f1daea7359377f7af635940a5f247e7876"), looks := true }, kinds := [], alts := [], laidByText := true, laidKinds := [.handle], laidTests := true, laidLooks := .later }
def AccountNilCardSaid : Prop := Claim7.holds Tryd.pinned (.plain (OpenSpec.ofChange accountNilSpec)) accountNilCard

/-- THE SECOND FORM's CARD OF 'geyserlaw20.AccountNil'. -/
def accountNilUptoCard : Claim7 := { stood := { row := accountNilUptoRow, standIns := [], harness := (true, "a60249c3f2693ccc70ebadb9622e05f1daea7359377f7af635940a5f247e7876"), looks := true }, kinds := [], alts := [], laidByText := true, laidKinds := [.handle], laidTests := true, laidLooks := .later }
def AccountNilUptoCardSaid : Prop := Claim7.holds Tryd.pinned (.plain (OpenSpec.upto accountNilSpec)) accountNilUptoCard
end Rows
end Go.Proofs.YtbjojkocmmcpgaaDoor
