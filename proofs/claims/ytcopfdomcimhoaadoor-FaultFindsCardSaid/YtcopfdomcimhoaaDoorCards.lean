/-
  DERIVED. GIVEN WITH THE SEED: THE CARDS: each row of YtcopfdomcimhoaaDoorRows.lean that lists a variable, with what it lists TIED to the program's text (the seventh form; the later family's looks); each row that meets fmt, with fmt's text TOLD by the authors' own Lean function (tested against real Go, not proved from fmt's source: count such statements apart). THE CARD IS WHAT COUNTS. Prove the row's statement (the work); the ties are given (YtcopfdomcimhoaaDoorTie.lean); close each card by the builder's one call (the guide's Derived/Test/ToyasCard.lean, 'card_holds'). Laid BY PROGRAM, IN A SANDBOX (cutbox-door.mjs). By AI agents, Wed Nov 11 2026. No macro, syntax, notation, axiom, sorry.
-/
import Derived.Test.YtcopfdomcimhoaaDoorRows
import GoSem.ClaimSeven
namespace Go.Proofs.YtcopfdomcimhoaaDoor
namespace Rows

/-- THE TIED CARD OF 'geyserlaw01.FaultNews'. -/
def faultNewsCard : Claim7 := { stood := { row := faultNewsRow, standIns := [], harness := (true, "84dd85db78803808d2b3f9516365524d91d59a9b7a53c3854d2062256b827563"), looks := true }, kinds := [], alts := [], laidByText := true, laidKinds := [.handle], laidTests := true, laidLooks := .later }
def FaultNewsCardSaid : Prop := Claim7.holds Tryd.pinned (.plain (OpenSpec.ofChange faultNewsSpec)) faultNewsCard

/-- THE TIED CARD OF 'geyserlaw01.FaultWraps'. -/
def faultWrapsCard : Claim7 := { stood := { row := faultWrapsRow, standIns := [], harness := (true, "84dd85db78803808d2b3f9516365524d91d59a9b7a53c3854d2062256b827563"), looks := true }, kinds := [], alts := [], laidByText := true, laidKinds := [.handle], laidTests := true, laidLooks := .later }
def FaultWrapsCardSaid : Prop := Claim7.holds Tryd.pinned (.plain (OpenSpec.ofChange faultWrapsSpec)) faultWrapsCard

/-- THE TIED CARD OF 'geyserlaw01.FaultChains'. -/
def faultChainsCard : Claim7 := { stood := { row := faultChainsRow, standIns := [], harness := (true, "84dd85db78803808d2b3f9516365524d91d59a9b7a53c3854d2062256b827563"), looks := true }, kinds := [], alts := [], laidByText := true, laidKinds := [.handle], laidTests := true, laidLooks := .later }
def FaultChainsCardSaid : Prop := Claim7.holds Tryd.pinned (.plain (OpenSpec.ofChange faultChainsSpec)) faultChainsCard

/-- THE TIED CARD OF 'geyserlaw01.FaultNums'. -/
def faultNumsCard : Claim7 := { stood := { row := faultNumsRow, standIns := [], harness := (true, "84dd85db78803808d2b3f9516365524d91d59a9b7a53c3854d2062256b827563"), looks := true }, kinds := [], alts := [], laidByText := true, laidKinds := [.handle], laidTests := true, laidLooks := .later }
def FaultNumsCardSaid : Prop := Claim7.holds Tryd.pinned (.plain (OpenSpec.ofChange faultNumsSpec)) faultNumsCard

/-- THE TIED CARD OF 'geyserlaw01.FaultFinds'. -/
def faultFindsCard : Claim7 := { stood := { row := faultFindsRow, standIns := [], harness := (true, "84dd85db78803808d2b3f9516365524d91d59a9b7a53c3854d2062256b827563"), looks := true }, kinds := [], alts := [], laidByText := true, laidKinds := [.handle], laidTests := true, laidLooks := .later }
def FaultFindsCardSaid : Prop := Claim7.holds Tryd.pinned (.plain (OpenSpec.ofChange faultFindsSpec)) faultFindsCard

/-- THE SECOND FORM's CARD OF 'geyserlaw01.FaultNews'. -/
def faultNewsUptoCard : Claim7 := { stood := { row := faultNewsUptoRow, standIns := [], harness := (true, "84dd85db78803808d2b3f9516365524d91d59a9b7a53c3854d2062256b827563"), looks := true }, kinds := [], alts := [], laidByText := true, laidKinds := [.handle], laidTests := true, laidLooks := .later }
def FaultNewsUptoCardSaid : Prop := Claim7.holds Tryd.pinned (.plain (OpenSpec.upto faultNewsSpec)) faultNewsUptoCard

/-- THE SECOND FORM's CARD OF 'geyserlaw01.FaultWraps'. -/
def faultWrapsUptoCard : Claim7 := { stood := { row := faultWrapsUptoRow, standIns := [], harness := (true, "84dd85db78803808d2b3f9516365524d91d59a9b7a53c3854d2062256b827563"), looks := true }, kinds := [], alts := [], laidByText := true, laidKinds := [.handle], laidTests := true, laidLooks := .later }
def FaultWrapsUptoCardSaid : Prop := Claim7.holds Tryd.pinned (.plain (OpenSpec.upto faultWrapsSpec)) faultWrapsUptoCard

/-- THE SECOND FORM's CARD OF 'geyserlaw01.FaultChains'. -/
def faultChainsUptoCard : Claim7 := { stood := { row := faultChainsUptoRow, standIns := [], harness := (true, "84dd85db78803808d2b3f9516365524d91d59a9b7a53c3854d2062256b827563"), looks := true }, kinds := [], alts := [], laidByText := true, laidKinds := [.handle], laidTests := true, laidLooks := .later }
def FaultChainsUptoCardSaid : Prop := Claim7.holds Tryd.pinned (.plain (OpenSpec.upto faultChainsSpec)) faultChainsUptoCard

/-- THE SECOND FORM's CARD OF 'geyserlaw01.FaultNums'. -/
def faultNumsUptoCard : Claim7 := { stood := { row := faultNumsUptoRow, standIns := [], harness := (true, "84dd85db78803808d2b3f9516365524d91d59a9b7a53c3854d2062256b827563"), looks := true }, kinds := [], alts := [], laidByText := true, laidKinds := [.handle], laidTests := true, laidLooks := .later }
def FaultNumsUptoCardSaid : Prop := Claim7.holds Tryd.pinned (.plain (OpenSpec.upto faultNumsSpec)) faultNumsUptoCard

/-- THE SECOND FORM's CARD OF 'geyserlaw01.FaultFinds'. -/
def faultFindsUptoCard : Claim7 := { stood := { row := faultFindsUptoRow, standIns := [], harness := (true, "84dd85db78803808d2b3f9516365524d91d59a9b7a53c3854d2062256b827563"), looks := true }, kinds := [], alts := [], laidByText := true, laidKinds := [.handle], laidTests := true, laidLooks := .later }
def FaultFindsUptoCardSaid : Prop := Claim7.holds Tryd.pinned (.plain (OpenSpec.upto faultFindsSpec)) faultFindsUptoCard
end Rows
end Go.Proofs.YtcopfdomcimhoaaDoor
