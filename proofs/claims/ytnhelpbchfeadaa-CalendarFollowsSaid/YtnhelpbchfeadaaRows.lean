/-
  No cell of these rows narrows 'for every input' (looked for: loops, veiled, ifaces, maps, wideKeys, modest, calm, conditions, laid).
  DERIVED. THE GIVEN ROWS OF THIS SEAT. 3 by the template 'for every input the law returns true; each argument reads behind the call as it read before'; 0 by the template 'total and deterministic' (their statements: YtnhelpbchfeadaaTotals.lean).
  GIVEN WITH THE SEED: the statements are not yours to turn. If you find one false, say at which input.
  Laid BY PROGRAM, IN A SANDBOX (cutbox-rows.mjs): the forced cells as the released guide's own fill.sh prints them over the translation 3d7128a1b2a50588… (all of the seat's roots in one cut). By AI agents, Wed Nov 11 2026. No macro, syntax, notation, axiom, sorry.
-/
import Derived.Test.YtnhelpbchfeadaaChecked
import GoSem.Claim
import GoSem.ClaimJoined
import GoSem.ClaimMapViews
import Derived.JoinedTies
import Derived.KernelRfl
namespace Go.Proofs.Ytnhelpbchfeadaa
/- THE CELL 'sum', in the pinned program and in every row, IS THE sha256 OF THE DUMP (.gsa) THAT YtnhelpbchfeadaaProg.lean LOADS. Nothing in Lean hashes anything: it is a label: what it is worth is what the hold of that sum in a sandbox is worth. -/
noncomputable def Try.pinned : Pinned := { name := "ytnhelpbchfeadaa", sum := "3d7128a1b2a50588ad5f5a46c1a4a5ccd340ca06243aee4b37d56d6ed67953db", checked := Try.checked }
namespace Rows
def none {H : Type} : Left H := { results := [], args := [] }

/-- 'geyserlaw18.CalendarFollows': WHATEVER THE INPUT: true; the input reads as it did. -/
def calendarFollowsSpec : ChangeSpec := { name := "calendarFollows", fn := fun _ => fun
  | [d1, d2, d3] => { results := [.lit (.bool true)], args := [d1, d2, d3] }
  | _ => none }
def calendarFollowsRow : OpenClaim := { program := "ytnhelpbchfeadaa", sum := "3d7128a1b2a50588ad5f5a46c1a4a5ccd340ca06243aee4b37d56d6ed67953db", func := "geyser/geyserlaw18.CalendarFollows", spec := "calendarFollows", apart := false }
def CalendarFollowsSaid : Prop := calendarFollowsRow.holds Try.pinned (OpenSpec.ofChange calendarFollowsSpec)

/-- ITS FALSE NEIGHBOUR: 'it returns false'. Refute it at one input. -/
def calendarFollowsWrong : ChangeSpec := { name := "calendarFollows", fn := fun _ => fun
  | [d1, d2, d3] => { results := [.lit (.bool false)], args := [d1, d2, d3] }
  | _ => none }
def CalendarFollowsWrongFalsely : Prop := calendarFollowsRow.holds Try.pinned (OpenSpec.ofChange calendarFollowsWrong)

/-- 'geyserlaw18.CalendarBelow': WHATEVER THE INPUT: true; the input reads as it did. -/
def calendarBelowSpec : ChangeSpec := { name := "calendarBelow", fn := fun _ => fun
  | [d1, d2, d3] => { results := [.lit (.bool true)], args := [d1, d2, d3] }
  | _ => none }
def calendarBelowRow : OpenClaim := { program := "ytnhelpbchfeadaa", sum := "3d7128a1b2a50588ad5f5a46c1a4a5ccd340ca06243aee4b37d56d6ed67953db", func := "geyser/geyserlaw18.CalendarBelow", spec := "calendarBelow", apart := false }
def CalendarBelowSaid : Prop := calendarBelowRow.holds Try.pinned (OpenSpec.ofChange calendarBelowSpec)

/-- ITS FALSE NEIGHBOUR: 'it returns false'. Refute it at one input. -/
def calendarBelowWrong : ChangeSpec := { name := "calendarBelow", fn := fun _ => fun
  | [d1, d2, d3] => { results := [.lit (.bool false)], args := [d1, d2, d3] }
  | _ => none }
def CalendarBelowWrongFalsely : Prop := calendarBelowRow.holds Try.pinned (OpenSpec.ofChange calendarBelowWrong)

/-- 'geyserlaw18.CalendarAhead': WHATEVER THE INPUT: true; the input reads as it did. -/
def calendarAheadSpec : ChangeSpec := { name := "calendarAhead", fn := fun _ => fun
  | [d1, d2, d3] => { results := [.lit (.bool true)], args := [d1, d2, d3] }
  | _ => none }
def calendarAheadRow : OpenClaim := { program := "ytnhelpbchfeadaa", sum := "3d7128a1b2a50588ad5f5a46c1a4a5ccd340ca06243aee4b37d56d6ed67953db", func := "geyser/geyserlaw18.CalendarAhead", spec := "calendarAhead", apart := false }
def CalendarAheadSaid : Prop := calendarAheadRow.holds Try.pinned (OpenSpec.ofChange calendarAheadSpec)

/-- ITS FALSE NEIGHBOUR: 'it returns false'. Refute it at one input. -/
def calendarAheadWrong : ChangeSpec := { name := "calendarAhead", fn := fun _ => fun
  | [d1, d2, d3] => { results := [.lit (.bool false)], args := [d1, d2, d3] }
  | _ => none }
def CalendarAheadWrongFalsely : Prop := calendarAheadRow.holds Try.pinned (OpenSpec.ofChange calendarAheadWrong)

/- THE SECOND FORM. 'bulk': how many values and letters a reading holds, each counted each time it is reached (what is shared counts as often as it is met; a slice's spare places count too). A statement '..UptoSaid' is the law's where the arguments, and the package variables that the reading takes, are together of bulk at most 1048576: NARROWER than '..Said'. Prove '..Said' where nothing that the law and all that it calls make is longer than what came in: it says more and counts as full. Else prove '..UptoSaid'. A law counts once. -/
mutual
def uptoBulk {H : Type} : DataW H → Nat
  | .lit (.string bytes) => bytes.length + 1
  | .lit _ => 1
  | .nil => 1
  | .ptr d => uptoBulk d + 1
  | .slice elems spare => uptoBulkAll elems + uptoBulkAll spare + 1
  | .agg parts => uptoBulkAll parts + 1
  | .iface _ d => uptoBulk d + 1
  | .map entries => uptoBulkEntries entries + 1
  | .held _ => 1
def uptoBulkAll {H : Type} : List (DataW H) → Nat
  | [] => 0
  | d :: r => uptoBulk d + uptoBulkAll r
def uptoBulkEntries {H : Type} : List (Lit × DataW H) → Nat
  | [] => 0
  | x :: r => uptoBulkEntry x + uptoBulkEntries r
def uptoBulkEntry {H : Type} : Lit × DataW H → Nat
  | (.string bytes, d) => bytes.length + uptoBulk d + 1
  | (_, d) => uptoBulk d + 1
 end
def uptoSmall : (H : Type) → List (DataW H) → Bool := fun _ ds => decide (uptoBulkAll ds ≤ 1048576)
def OpenSpec.upto (s : _root_.Go.ChangeSpec) : _root_.Go.OpenSpec := { _root_.Go.OpenSpec.ofChange s with cond := some uptoSmall }

/-- 'geyserlaw18.CalendarFollows', WHERE WHAT IT READS IS OF BULK AT MOST 1048576: true; the input reads as it did. -/
def calendarFollowsUptoRow : OpenClaim := { program := "ytnhelpbchfeadaa", sum := "3d7128a1b2a50588ad5f5a46c1a4a5ccd340ca06243aee4b37d56d6ed67953db", func := "geyser/geyserlaw18.CalendarFollows", spec := "calendarFollows", apart := false, narrowed := true }
def CalendarFollowsUptoSaid : Prop := calendarFollowsUptoRow.holds Try.pinned (OpenSpec.upto calendarFollowsSpec)

/-- 'geyserlaw18.CalendarBelow', WHERE WHAT IT READS IS OF BULK AT MOST 1048576: true; the input reads as it did. -/
def calendarBelowUptoRow : OpenClaim := { program := "ytnhelpbchfeadaa", sum := "3d7128a1b2a50588ad5f5a46c1a4a5ccd340ca06243aee4b37d56d6ed67953db", func := "geyser/geyserlaw18.CalendarBelow", spec := "calendarBelow", apart := false, narrowed := true }
def CalendarBelowUptoSaid : Prop := calendarBelowUptoRow.holds Try.pinned (OpenSpec.upto calendarBelowSpec)

/-- 'geyserlaw18.CalendarAhead', WHERE WHAT IT READS IS OF BULK AT MOST 1048576: true; the input reads as it did. -/
def calendarAheadUptoRow : OpenClaim := { program := "ytnhelpbchfeadaa", sum := "3d7128a1b2a50588ad5f5a46c1a4a5ccd340ca06243aee4b37d56d6ed67953db", func := "geyser/geyserlaw18.CalendarAhead", spec := "calendarAhead", apart := false, narrowed := true }
def CalendarAheadUptoSaid : Prop := calendarAheadUptoRow.holds Try.pinned (OpenSpec.upto calendarAheadSpec)

end Rows
end Go.Proofs.Ytnhelpbchfeadaa
