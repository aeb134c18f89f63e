/-
  DERIVED. GIVEN WITH THE SEED: THE CARDS: each row of YtgbghjbihddpjaaDoorRows.lean that lists a variable, with what it lists TIED to the program's text (the seventh form; the later family's looks); each row that meets fmt, with fmt's text TOLD by the authors' own Lean function (tested against real Go, not proved from fmt's source: count such statements apart). THE CARD IS WHAT COUNTS. Prove the row's statement (the work); the ties are given (YtgbghjbihddpjaaDoorTie.lean); close each card by the builder's one call (the guide's Derived/Test/ToyasCard.lean, 'card_holds'). Laid BY PROGRAM, IN A SANDBOX (cutbox-door.mjs). By AI agents, Wed Nov 11 2026. No macro, syntax, notation, axiom, sorry.
-/
import Derived.Test.YtgbghjbihddpjaaDoorRows
import GoSem.ClaimSeven
namespace Go.Proofs.YtgbghjbihddpjaaDoor
namespace Rows

/-- THE TIED CARD OF 'geyserlaw21.ControlPlays'. -/
def controlPlaysCard : Claim7 := { stood := { row := controlPlaysRow, standIns := [], harness := (true, "2de63790d398abcf125b0559ee082b29503949e11b9a8cd30745f522050bee3d"), looks := true }, kinds := [], alts := [], laidByText := true, laidKinds := [.handle], laidTests := true, laidLooks := .later }
def ControlPlaysCardSaid : Prop := Claim7.holds Tryd.pinned (.plain (OpenSpec.ofChange controlPlaysSpec)) controlPlaysCard

/-- THE TIED CARD OF 'geyserlaw21.ControlNil'. -/
def controlNilCard : Claim7 := { stood := { row := controlNilRow, standIns := [], harness := (true, "2de63790d398abcf125b0559ee082b29503949e11b9a8cd30745f522050bee3d"), looks := true }, kinds := [], alts := [], laidByText := true, laidKinds := [.handle], laidTests := true, laidLooks := .later }
def ControlNilCardSaid : Prop := Claim7.holds Tryd.pinned (.plain (OpenSpec.ofChange controlNilSpec)) controlNilCard

/-- THE SECOND FORM's CARD OF 'geyserlaw21.ControlPlays'. -/
def controlPlaysUptoCard : Claim7 := { stood := { row := controlPlaysUptoRow, standIns := [], harness := (true, "2de63790d398abcf125b0559ee082b29503949e11b9a8cd30745f522050bee3d"), looks := true }, kinds := [], alts := [], laidByText := true, laidKinds := [.handle], laidTests := true, laidLooks := .later }
def ControlPlaysUptoCardSaid : Prop := Claim7.holds Tryd.pinned (.plain (OpenSpec.upto controlPlaysSpec)) controlPlaysUptoCard

/-- THE SECOND FORM's CARD OF 'geyserlaw21.ControlNil'. -/
def controlNilUptoCard : Claim7 := { stood := { row := controlNilUptoRow, standIns := [], harness := (true, "2de63790d398abcf125b0559ee082b29503949e11b9a8cd30745f522050bee3d"), looks := true }, kinds := [], alts := [], laidByText := true, laidKinds := [.handle], laidTests := true, laidLooks := .later }
def ControlNilUptoCardSaid : Prop := Claim7.holds Tryd.pinned (.plain (OpenSpec.upto controlNilSpec)) controlNilUptoCard
end Rows
end Go.Proofs.YtgbghjbihddpjaaDoor
