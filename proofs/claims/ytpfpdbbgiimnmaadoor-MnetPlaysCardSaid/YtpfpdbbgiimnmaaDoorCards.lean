/-
  DERIVED. GIVEN WITH THE SEED: THE CARDS: each row of YtpfpdbbgiimnmaaDoorRows.lean that lists a variable, with what it lists TIED to the program's text (the seventh form; the later family's looks); each row that meets fmt, with fmt's text TOLD by the authors' own Lean function (tested against real Go, not proved from fmt's source: count such statements apart). THE CARD IS WHAT COUNTS. Prove the row's statement (the work); the ties are given (YtpfpdbbgiimnmaaDoorTie.lean); close each card by the builder's one call (the guide's Derived/Test/ToyasCard.lean, 'card_holds'). Laid BY PROGRAM, IN A SANDBOX (cutbox-door.mjs). By AI agents, Wed Nov 11 2026. No macro, syntax, notation, axiom, sorry.
-/
import Derived.Test.YtpfpdbbgiimnmaaDoorRows
import GoSem.ClaimSeven
namespace Go.Proofs.YtpfpdbbgiimnmaaDoor
namespace Rows

/-- THE TIED CARD OF 'geyserlaw22.MnetOnce'. -/
def mnetOnceCard : Claim7 := { stood := { row := mnetOnceRow, standIns := [], harness := (true, "7e114d9a9f991a09141b8c5a90c769f63b2e778d98de76c38ef8bf213491e5f9"), looks := true }, kinds := [], alts := [], laidByText := true, laidKinds := [.handle], laidTests := true, laidLooks := .later }
def MnetOnceCardSaid : Prop := Claim7.holds Tryd.pinned (.plain (OpenSpec.ofChange mnetOnceSpec)) mnetOnceCard

/-- THE TIED CARD OF 'geyserlaw22.MnetPlays'. -/
def mnetPlaysCard : Claim7 := { stood := { row := mnetPlaysRow, standIns := [], harness := (true, "7e114d9a9f991a09141b8c5a90c769f63b2e778d98de76c38ef8bf213491e5f9"), looks := true }, kinds := [], alts := [], laidByText := true, laidKinds := [.handle], laidTests := true, laidLooks := .later }
def MnetPlaysCardSaid : Prop := Claim7.holds Tryd.pinned (.plain (OpenSpec.ofChange mnetPlaysSpec)) mnetPlaysCard

/-- THE TIED CARD OF 'geyserlaw22.MnetNil'. -/
def mnetNilCard : Claim7 := { stood := { row := mnetNilRow, standIns := [], harness := (true, "7e114d9a9f991a09141b8c5a90c769f63b2e778d98de76c38ef8bf213491e5f9"), looks := true }, kinds := [], alts := [], laidByText := true, laidKinds := [.handle], laidTests := true, laidLooks := .later }
def MnetNilCardSaid : Prop := Claim7.holds Tryd.pinned (.plain (OpenSpec.ofChange mnetNilSpec)) mnetNilCard

/-- THE SECOND FORM's CARD OF 'geyserlaw22.MnetOnce'. -/
def mnetOnceUptoCard : Claim7 := { stood := { row := mnetOnceUptoRow, standIns := [], harness := (true, "7e114d9a9f991a09141b8c5a90c769f63b2e778d98de76c38ef8bf213491e5f9"), looks := true }, kinds := [], alts := [], laidByText := true, laidKinds := [.handle], laidTests := true, laidLooks := .later }
def MnetOnceUptoCardSaid : Prop := Claim7.holds Tryd.pinned (.plain (OpenSpec.upto mnetOnceSpec)) mnetOnceUptoCard

/-- THE SECOND FORM's CARD OF 'geyserlaw22.MnetPlays'. -/
def mnetPlaysUptoCard : Claim7 := { stood := { row := mnetPlaysUptoRow, standIns := [], harness := (true, "7e114d9a9f991a09141b8c5a90c769f63b2e778d98de76c38ef8bf213491e5f9"), looks := true }, kinds := [], alts := [], laidByText := true, laidKinds := [.handle], laidTests := true, laidLooks := .later }
def MnetPlaysUptoCardSaid : Prop := Claim7.holds Tryd.pinned (.plain (OpenSpec.upto mnetPlaysSpec)) mnetPlaysUptoCard

/-- THE SECOND FORM's CARD OF 'geyserlaw22.MnetNil'. -/
def mnetNilUptoCard : Claim7 := { stood := { row := mnetNilUptoRow, standIns := [], harness := (true, "7e114d9a9f991a09141b8c5a90c769f63b2e778d98de76c38ef8bf213491e5f9"), looks := true }, kinds := [], alts := [], laidByText := true, laidKinds := [.handle], laidTests := true, laidLooks := .later }
def MnetNilUptoCardSaid : Prop := Claim7.holds Tryd.pinned (.plain (OpenSpec.upto mnetNilSpec)) mnetNilUptoCard
end Rows
end Go.Proofs.YtpfpdbbgiimnmaaDoor
