/-
  DERIVED. GIVEN WITH THE SEED: THE CARDS: each row of YtnhelpbchfeadaaDoorRows.lean that lists a variable, with what it lists TIED to the program's text (the seventh form; the later family's looks); each row that meets fmt, with fmt's text TOLD by the authors' own Lean function (tested against real Go, not proved from fmt's source: count such statements apart). THE CARD IS WHAT COUNTS. Prove the row's statement (the work); the ties are given (YtnhelpbchfeadaaDoorTie.lean); close each card by the builder's one call (the guide's Derived/Test/ToyasCard.lean, 'card_holds'). Laid BY PROGRAM, IN A SANDBOX (cutbox-door.mjs). By AI agents, Wed Nov 11 2026. No macro, syntax, notation, axiom, sorry.
-/
import Derived.Test.YtnhelpbchfeadaaDoorRows
import GoSem.ClaimSeven
namespace Go.Proofs.YtnhelpbchfeadaaDoor
namespace Rows

/-- THE TIED CARD OF 'geyserlaw18.CalendarSyncs'. -/
def calendarSyncsCard : Claim7 := { stood := { row := calendarSyncsRow, standIns := [], harness := (true, "7dc2370f7041d439c9d54f757ee3038830e74720c8e65bf4184ee96609d30be1"), looks := true }, kinds := [], alts := [], laidByText := true, laidKinds := [.handle], laidTests := true, laidLooks := .later }
def CalendarSyncsCardSaid : Prop := Claim7.holds Tryd.pinned (.plain (OpenSpec.ofChange calendarSyncsSpec)) calendarSyncsCard

/-- THE TIED CARD OF 'geyserlaw18.CalendarRows'. -/
def calendarRowsCard : Claim7 := { stood := { row := calendarRowsRow, standIns := [], harness := (true, "7dc2370f7041d439c9d54f757ee3038830e74720c8e65bf4184ee96609d30be1"), looks := true }, kinds := [], alts := [], laidByText := true, laidKinds := [.handle], laidTests := true, laidLooks := .later }
def CalendarRowsCardSaid : Prop := Claim7.holds Tryd.pinned (.plain (OpenSpec.ofChange calendarRowsSpec)) calendarRowsCard

/-- THE TIED CARD OF 'geyserlaw18.CalendarBursts'. -/
def calendarBurstsCard : Claim7 := { stood := { row := calendarBurstsRow, standIns := [], harness := (true, "7dc2370f7041d439c9d54f757ee3038830e74720c8e65bf4184ee96609d30be1"), looks := true }, kinds := [], alts := [], laidByText := true, laidKinds := [.handle], laidTests := true, laidLooks := .later }
def CalendarBurstsCardSaid : Prop := Claim7.holds Tryd.pinned (.plain (OpenSpec.ofChange calendarBurstsSpec)) calendarBurstsCard

/-- THE TIED CARD OF 'geyserlaw18.CalendarNexts'. -/
def calendarNextsCard : Claim7 := { stood := { row := calendarNextsRow, standIns := [], harness := (true, "7dc2370f7041d439c9d54f757ee3038830e74720c8e65bf4184ee96609d30be1"), looks := true }, kinds := [], alts := [], laidByText := true, laidKinds := [.handle], laidTests := true, laidLooks := .later }
def CalendarNextsCardSaid : Prop := Claim7.holds Tryd.pinned (.plain (OpenSpec.ofChange calendarNextsSpec)) calendarNextsCard

/-- THE SECOND FORM's CARD OF 'geyserlaw18.CalendarSyncs'. -/
def calendarSyncsUptoCard : Claim7 := { stood := { row := calendarSyncsUptoRow, standIns := [], harness := (true, "7dc2370f7041d439c9d54f757ee3038830e74720c8e65bf4184ee96609d30be1"), looks := true }, kinds := [], alts := [], laidByText := true, laidKinds := [.handle], laidTests := true, laidLooks := .later }
def CalendarSyncsUptoCardSaid : Prop := Claim7.holds Tryd.pinned (.plain (OpenSpec.upto calendarSyncsSpec)) calendarSyncsUptoCard

/-- THE SECOND FORM's CARD OF 'geyserlaw18.CalendarRows'. -/
def calendarRowsUptoCard : Claim7 := { stood := { row := calendarRowsUptoRow, standIns := [], harness := (true, "7dc2370f7041d439c9d54f757ee3038830e74720c8e65bf4184ee96609d30be1"), looks := true }, kinds := [], alts := [], laidByText := true, laidKinds := [.handle], laidTests := true, laidLooks := .later }
def CalendarRowsUptoCardSaid : Prop := Claim7.holds Tryd.pinned (.plain (OpenSpec.upto calendarRowsSpec)) calendarRowsUptoCard

/-- THE SECOND FORM's CARD OF 'geyserlaw18.CalendarBursts'. -/
def calendarBurstsUptoCard : Claim7 := { stood := { row := calendarBurstsUptoRow, standIns := [], harness := (true, "7dc2370f7041d439c9d54f757ee3038830e74720c8e65bf4184ee96609d30be1"), looks := true }, kinds := [], alts := [], laidByText := true, laidKinds := [.handle], laidTests := true, laidLooks := .later }
def CalendarBurstsUptoCardSaid : Prop := Claim7.holds Tryd.pinned (.plain (OpenSpec.upto calendarBurstsSpec)) calendarBurstsUptoCard

/-- THE SECOND FORM's CARD OF 'geyserlaw18.CalendarNexts'. -/
def calendarNextsUptoCard : Claim7 := { stood := { row := calendarNextsUptoRow, standIns := [], harness := (true, "7dc2370f7041d439c9d54f757ee3038830e74720c8e65bf4184ee96609d30be1"), looks := true }, kinds := [], alts := [], laidByText := true, laidKinds := [.handle], laidTests := true, laidLooks := .later }
def CalendarNextsUptoCardSaid : Prop := Claim7.holds Tryd.pinned (.plain (OpenSpec.upto calendarNextsSpec)) calendarNextsUptoCard
end Rows
end Go.Proofs.YtnhelpbchfeadaaDoor
