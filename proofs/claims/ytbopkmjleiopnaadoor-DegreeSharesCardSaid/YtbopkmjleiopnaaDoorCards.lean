/-
  DERIVED. GIVEN WITH THE SEED: THE CARDS: each row of YtbopkmjleiopnaaDoorRows.lean that lists a variable, with what it lists TIED to the program's text (the seventh form; the later family's looks); each row that meets fmt, with fmt's text TOLD by the authors' own Lean function (tested against real Go, not proved from fmt's source: count such statements apart). THE CARD IS WHAT COUNTS. Prove the row's statement (the work); the ties are given (YtbopkmjleiopnaaDoorTie.lean); close each card by the builder's one call (the guide's Derived/Test/ToyasCard.lean, 'card_holds'). Laid BY PROGRAM, IN A SANDBOX (cutbox-door.mjs). By AI agents, Wed Nov 11 2026. No macro, syntax, notation, axiom, sorry.
-/
import Derived.Test.YtbopkmjleiopnaaDoorRows
import GoSem.ClaimSeven
namespace Go.Proofs.YtbopkmjleiopnaaDoor
namespace Rows

/-- THE TIED CARD OF 'geyserlaw07.DegreeOfs'. -/
def degreeOfsCard : Claim7 := { stood := { row := degreeOfsRow, standIns := [], harness := (true, "9e0ee71d75ec1742b437a496a5754cd71519cfb06f38d8a9fd9f9c10c7241b59"), looks := true }, kinds := [], alts := [], laidByText := true, laidKinds := [.handle], laidTests := true, laidLooks := .later }
def DegreeOfsCardSaid : Prop := Claim7.holds Tryd.pinned (.plain (OpenSpec.ofChange degreeOfsSpec)) degreeOfsCard

/-- THE TIED CARD OF 'geyserlaw07.DegreeShares'. -/
def degreeSharesCard : Claim7 := { stood := { row := degreeSharesRow, standIns := [], harness := (true, "9e0ee71d75ec1742b437a496a5754cd71519cfb06f38d8a9fd9f9c10c7241b59"), looks := true }, kinds := [], alts := [], laidByText := true, laidKinds := [.handle], laidTests := true, laidLooks := .later }
def DegreeSharesCardSaid : Prop := Claim7.holds Tryd.pinned (.plain (OpenSpec.ofChange degreeSharesSpec)) degreeSharesCard

/-- THE SECOND FORM's CARD OF 'geyserlaw07.DegreeOfs'. -/
def degreeOfsUptoCard : Claim7 := { stood := { row := degreeOfsUptoRow, standIns := [], harness := (true, "9e0ee71d75ec1742b437a496a5754cd71519cfb06f38d8a9fd9f9c10c7241b59"), looks := true }, kinds := [], alts := [], laidByText := true, laidKinds := [.handle], laidTests := true, laidLooks := .later }
def DegreeOfsUptoCardSaid : Prop := Claim7.holds Tryd.pinned (.plain (OpenSpec.upto degreeOfsSpec)) degreeOfsUptoCard

/-- THE SECOND FORM's CARD OF 'geyserlaw07.DegreeShares'. -/
def degreeSharesUptoCard : Claim7 := { stood := { row := degreeSharesUptoRow, standIns := [], harness := (true, "9e0ee71d75ec1742b437a496a5754cd71519cfb06f38d8a9fd9f9c10c7241b59"), looks := true }, kinds := [], alts := [], laidByText := true, laidKinds := [.handle], laidTests := true, laidLooks := .later }
def DegreeSharesUptoCardSaid : Prop := Claim7.holds Tryd.pinned (.plain (OpenSpec.upto degreeSharesSpec)) degreeSharesUptoCard
end Rows
end Go.Proofs.YtbopkmjleiopnaaDoor
