/-
  DERIVED. GIVEN WITH THE SEED: THE CARDS: each row of YtnlkeeaoknbmbaaDoorRows.lean that lists a variable, with what it lists TIED to the program's text (the seventh form; the later family's looks); each row that meets fmt, with fmt's text TOLD by the authors' own Lean function (tested against real Go, not proved from fmt's source: count such statements apart). THE CARD IS WHAT COUNTS. Prove the row's statement (the work); the ties are given (YtnlkeeaoknbmbaaDoorTie.lean); close each card by the builder's one call (the guide's Derived/Test/ToyasCard.lean, 'card_holds'). Laid BY PROGRAM, IN A SANDBOX (cutbox-door.mjs). By AI agents, Wed Nov 11 2026. No macro, syntax, notation, axiom, sorry.
-/
import Derived.Test.YtnlkeeaoknbmbaaDoorRows
import GoSem.ClaimSeven
namespace Go.Proofs.YtnlkeeaoknbmbaaDoor
namespace Rows

/-- THE TIED CARD OF 'geyserlaw08.ParamsPrimes'. -/
def paramsPrimesCard : Claim7 := { stood := { row := paramsPrimesRow, standIns := [], harness := (true, "1c66d66724fd8e83b33f2bf2f347e670baf1d5869a5d94004b1ede0534227f0a"), looks := true }, kinds := [], alts := [], laidByText := true, laidKinds := [.handle], laidTests := true, laidLooks := .later }
def ParamsPrimesCardSaid : Prop := Claim7.holds Tryd.pinned (.plain (OpenSpec.ofChange paramsPrimesSpec)) paramsPrimesCard

/-- THE TIED CARD OF 'geyserlaw08.ParamsChooses'. -/
def paramsChoosesCard : Claim7 := { stood := { row := paramsChoosesRow, standIns := [], harness := (true, "1c66d66724fd8e83b33f2bf2f347e670baf1d5869a5d94004b1ede0534227f0a"), looks := true }, kinds := [], alts := [], laidByText := true, laidKinds := [.handle], laidTests := true, laidLooks := .later }
def ParamsChoosesCardSaid : Prop := Claim7.holds Tryd.pinned (.plain (OpenSpec.ofChange paramsChoosesSpec)) paramsChoosesCard

/-- THE TIED CARD OF 'geyserlaw08.ParamsOfs'. -/
def paramsOfsCard : Claim7 := { stood := { row := paramsOfsRow, standIns := [], harness := (true, "1c66d66724fd8e83b33f2bf2f347e670baf1d5869a5d94004b1ede0534227f0a"), looks := true }, kinds := [], alts := [], laidByText := true, laidKinds := [.handle], laidTests := true, laidLooks := .later }
def ParamsOfsCardSaid : Prop := Claim7.holds Tryd.pinned (.plain (OpenSpec.ofChange paramsOfsSpec)) paramsOfsCard

/-- THE SECOND FORM's CARD OF 'geyserlaw08.ParamsPrimes'. -/
def paramsPrimesUptoCard : Claim7 := { stood := { row := paramsPrimesUptoRow, standIns := [], harness := (true, "1c66d66724fd8e83b33f2bf2f347e670baf1d5869a5d94004b1ede0534227f0a"), looks := true }, kinds := [], alts := [], laidByText := true, laidKinds := [.handle], laidTests := true, laidLooks := .later }
def ParamsPrimesUptoCardSaid : Prop := Claim7.holds Tryd.pinned (.plain (OpenSpec.upto paramsPrimesSpec)) paramsPrimesUptoCard

/-- THE SECOND FORM's CARD OF 'geyserlaw08.ParamsChooses'. -/
def paramsChoosesUptoCard : Claim7 := { stood := { row := paramsChoosesUptoRow, standIns := [], harness := (true, "1c66d66724fd8e83b33f2bf2f347e670baf1d5869a5d94004b1ede0534227f0a"), looks := true }, kinds := [], alts := [], laidByText := true, laidKinds := [.handle], laidTests := true, laidLooks := .later }
def ParamsChoosesUptoCardSaid : Prop := Claim7.holds Tryd.pinned (.plain (OpenSpec.upto paramsChoosesSpec)) paramsChoosesUptoCard

/-- THE SECOND FORM's CARD OF 'geyserlaw08.ParamsOfs'. -/
def paramsOfsUptoCard : Claim7 := { stood := { row := paramsOfsUptoRow, standIns := [], harness := (true, "1c66d66724fd8e83b33f2bf2f347e670baf1d5869a5d94004b1ede0534227f0a"), looks := true }, kinds := [], alts := [], laidByText := true, laidKinds := [.handle], laidTests := true, laidLooks := .later }
def ParamsOfsUptoCardSaid : Prop := Claim7.holds Tryd.pinned (.plain (OpenSpec.upto paramsOfsSpec)) paramsOfsUptoCard
end Rows
end Go.Proofs.YtnlkeeaoknbmbaaDoor
