/-
  NARROWER THAN 'FOR EVERY INPUT', by the rows' own cells (each row's printed sentence says how): CalendarSyncs: laid · CalendarRows: laid · CalendarBursts: laid · CalendarNexts: laid.
  DERIVED. THE GIVEN ROWS OF THIS SEAT. 4 by the template 'for every input the law returns true; each argument reads behind the call as it read before'; 0 by the template 'total and deterministic' (their statements: YtnhelpbchfeadaaDoorTotals.lean).
  GIVEN WITH THE SEED: the statements are not yours to turn. If you find one false, say at which input.
  Laid BY PROGRAM, IN A SANDBOX (cutbox-rows.mjs): the forced cells as the released guide's own fill.sh prints them over the translation e2d7a3eaaf76165e… (all of the seat's roots in one cut). By AI agents, Wed Nov 11 2026. No macro, syntax, notation, axiom, sorry.
-/
import Derived.Test.YtnhelpbchfeadaaDoorChecked
import GoSem.Claim
import GoSem.ClaimJoined
import GoSem.ClaimMapViews
import Derived.JoinedTies
import Derived.KernelRfl
namespace Go.Proofs.YtnhelpbchfeadaaDoor
/- THE CELL 'sum', in the pinned program and in every row, IS THE sha256 OF THE DUMP (.gsa) THAT YtnhelpbchfeadaaDoorProg.lean LOADS. Nothing in Lean hashes anything: it is a label: what it is worth is what the hold of that sum in a sandbox is worth. -/
noncomputable def Tryd.pinned : Pinned := { name := "ytnhelpbchfeadaadoor", sum := "e2d7a3eaaf76165e30bf7a84b843bd8dd40e4325d30bf6303f22c891a3014759", checked := Tryd.checked }
namespace Rows
def none {H : Type} : Left H := { results := [], args := [] }

/- WHAT THE LISTED PACKAGE-LEVEL VARIABLES READ AS WHEN THE CALL BEGINS. Each datum BY PROGRAM (the guide's laid-datum.mjs) off the statement by which the dump's own 'gosem.cut.vars' lays the variable. In a bare row this is a premise. The card (YtnhelpbchfeadaaDoorCards.lean) ties it to the program's text. -/
def laid_errors_errorType {H : Type} : DataW H := .iface "internal/reflectlite.rtype" (.agg [.ptr (.lit (.string [101, 114, 114, 111, 114]))])

/-- 'geyserlaw18.CalendarSyncs': WHATEVER THE INPUT: true; the input reads as it did. -/
def calendarSyncsSpec : ChangeSpec := { name := "calendarSyncs", fn := fun _ => fun
  | [d1, d2, d3] => { results := [.lit (.bool true)], args := [d1, d2, d3] }
  | _ => none }
def calendarSyncsRow : OpenClaim := { program := "ytnhelpbchfeadaadoor", sum := "e2d7a3eaaf76165e30bf7a84b843bd8dd40e4325d30bf6303f22c891a3014759", func := "geyser/geyserlaw18.CalendarSyncs", spec := "calendarSyncs", inPlace := ["internal/reflectlite.ValueOf", "(internal/reflectlite.Value).Type", "(internal/reflectlite.Value).IsNil", "internal/reflectlite.TypeOf", "(internal/reflectlite.Value).Elem", "(internal/reflectlite.Value).Set"], unfollowed := true, recurses := true, named := ["errors.errorType"], apart := false, laid := [("errors.errorType", laid_errors_errorType)] }
def CalendarSyncsSaid : Prop := calendarSyncsRow.holds Tryd.pinned (OpenSpec.ofChange calendarSyncsSpec)

/-- ITS FALSE NEIGHBOUR: 'it returns false'. Refute it at one input. -/
def calendarSyncsWrong : ChangeSpec := { name := "calendarSyncs", fn := fun _ => fun
  | [d1, d2, d3] => { results := [.lit (.bool false)], args := [d1, d2, d3] }
  | _ => none }
def CalendarSyncsWrongFalsely : Prop := calendarSyncsRow.holds Tryd.pinned (OpenSpec.ofChange calendarSyncsWrong)

/-- 'geyserlaw18.CalendarRows': WHATEVER THE INPUT: true; the input reads as it did. -/
def calendarRowsSpec : ChangeSpec := { name := "calendarRows", fn := fun _ => fun
  | [d1, d2, d3] => { results := [.lit (.bool true)], args := [d1, d2, d3] }
  | _ => none }
def calendarRowsRow : OpenClaim := { program := "ytnhelpbchfeadaadoor", sum := "e2d7a3eaaf76165e30bf7a84b843bd8dd40e4325d30bf6303f22c891a3014759", func := "geyser/geyserlaw18.CalendarRows", spec := "calendarRows", inPlace := ["internal/reflectlite.ValueOf", "(internal/reflectlite.Value).Type", "(internal/reflectlite.Value).IsNil", "internal/reflectlite.TypeOf", "(internal/reflectlite.Value).Elem", "(internal/reflectlite.Value).Set"], unfollowed := true, recurses := true, named := ["errors.errorType"], apart := false, laid := [("errors.errorType", laid_errors_errorType)] }
def CalendarRowsSaid : Prop := calendarRowsRow.holds Tryd.pinned (OpenSpec.ofChange calendarRowsSpec)

/-- ITS FALSE NEIGHBOUR: 'it returns false'. Refute it at one input. -/
def calendarRowsWrong : ChangeSpec := { name := "calendarRows", fn := fun _ => fun
  | [d1, d2, d3] => { results := [.lit (.bool false)], args := [d1, d2, d3] }
  | _ => none }
def CalendarRowsWrongFalsely : Prop := calendarRowsRow.holds Tryd.pinned (OpenSpec.ofChange calendarRowsWrong)

/-- 'geyserlaw18.CalendarBursts': WHATEVER THE INPUT: true; the input reads as it did. -/
def calendarBurstsSpec : ChangeSpec := { name := "calendarBursts", fn := fun _ => fun
  | [d1, d2, d3] => { results := [.lit (.bool true)], args := [d1, d2, d3] }
  | _ => none }
def calendarBurstsRow : OpenClaim := { program := "ytnhelpbchfeadaadoor", sum := "e2d7a3eaaf76165e30bf7a84b843bd8dd40e4325d30bf6303f22c891a3014759", func := "geyser/geyserlaw18.CalendarBursts", spec := "calendarBursts", inPlace := ["internal/reflectlite.ValueOf", "(internal/reflectlite.Value).Type", "(internal/reflectlite.Value).IsNil", "internal/reflectlite.TypeOf", "(internal/reflectlite.Value).Elem", "(internal/reflectlite.Value).Set"], unfollowed := true, recurses := true, named := ["errors.errorType"], apart := false, laid := [("errors.errorType", laid_errors_errorType)] }
def CalendarBurstsSaid : Prop := calendarBurstsRow.holds Tryd.pinned (OpenSpec.ofChange calendarBurstsSpec)

/-- ITS FALSE NEIGHBOUR: 'it returns false'. Refute it at one input. -/
def calendarBurstsWrong : ChangeSpec := { name := "calendarBursts", fn := fun _ => fun
  | [d1, d2, d3] => { results := [.lit (.bool false)], args := [d1, d2, d3] }
  | _ => none }
def CalendarBurstsWrongFalsely : Prop := calendarBurstsRow.holds Tryd.pinned (OpenSpec.ofChange calendarBurstsWrong)

/-- 'geyserlaw18.CalendarNexts': WHATEVER THE INPUT: true; the input reads as it did. -/
def calendarNextsSpec : ChangeSpec := { name := "calendarNexts", fn := fun _ => fun
  | [d1, d2, d3] => { results := [.lit (.bool true)], args := [d1, d2, d3] }
  | _ => none }
def calendarNextsRow : OpenClaim := { program := "ytnhelpbchfeadaadoor", sum := "e2d7a3eaaf76165e30bf7a84b843bd8dd40e4325d30bf6303f22c891a3014759", func := "geyser/geyserlaw18.CalendarNexts", spec := "calendarNexts", inPlace := ["internal/reflectlite.ValueOf", "(internal/reflectlite.Value).Type", "(internal/reflectlite.Value).IsNil", "internal/reflectlite.TypeOf", "(internal/reflectlite.Value).Elem", "(internal/reflectlite.Value).Set"], unfollowed := true, recurses := true, named := ["errors.errorType"], apart := false, laid := [("errors.errorType", laid_errors_errorType)] }
def CalendarNextsSaid : Prop := calendarNextsRow.holds Tryd.pinned (OpenSpec.ofChange calendarNextsSpec)

/-- ITS FALSE NEIGHBOUR: 'it returns false'. Refute it at one input. -/
def calendarNextsWrong : ChangeSpec := { name := "calendarNexts", fn := fun _ => fun
  | [d1, d2, d3] => { results := [.lit (.bool false)], args := [d1, d2, d3] }
  | _ => none }
def CalendarNextsWrongFalsely : Prop := calendarNextsRow.holds Tryd.pinned (OpenSpec.ofChange calendarNextsWrong)

/- THE SECOND FORM. 'bulk': how many values and letters a reading holds, each counted each time it is reached (what is shared counts as often as it is met; a slice's spare places count too). A statement '..UptoSaid' is the law's where the arguments, and the package variables that the reading takes, are together of bulk at most 1048576: NARROWER than '..Said'. Prove '..Said' where nothing that the law and all that it calls make is longer than what came in: it says more and counts as full. Else prove '..UptoSaid'. A law counts once. -/
mutual
def uptoBulk {H : Type} : DataW H → Nat
  | .lit (.string bytes) => bytes.length + 1
  | .lit _ => 1
  | .nil => 1
  | .ptr d => uptoBulk d + 1
  | .slice elems spare => uptoBulkAll elems + uptoBulkAll spare + 1
  | .agg parts => uptoBulkAll parts + 1
  | .iface _ d => uptoBulk d + 1
  | .map entries => uptoBulkEntries entries + 1
  | .held _ => 1
def uptoBulkAll {H : Type} : List (DataW H) → Nat
  | [] => 0
  | d :: r => uptoBulk d + uptoBulkAll r
def uptoBulkEntries {H : Type} : List (Lit × DataW H) → Nat
  | [] => 0
  | x :: r => uptoBulkEntry x + uptoBulkEntries r
def uptoBulkEntry {H : Type} : Lit × DataW H → Nat
  | (.string bytes, d) => bytes.length + uptoBulk d + 1
  | (_, d) => uptoBulk d + 1
 end
def uptoSmall : (H : Type) → List (DataW H) → Bool := fun _ ds => decide (uptoBulkAll ds ≤ 1048576)
def OpenSpec.upto (s : _root_.Go.ChangeSpec) : _root_.Go.OpenSpec := { _root_.Go.OpenSpec.ofChange s with cond := some uptoSmall }

/-- 'geyserlaw18.CalendarSyncs', WHERE WHAT IT READS IS OF BULK AT MOST 1048576: true; the input reads as it did. -/
def calendarSyncsUptoRow : OpenClaim := { program := "ytnhelpbchfeadaadoor", sum := "e2d7a3eaaf76165e30bf7a84b843bd8dd40e4325d30bf6303f22c891a3014759", func := "geyser/geyserlaw18.CalendarSyncs", spec := "calendarSyncs", inPlace := ["internal/reflectlite.ValueOf", "(internal/reflectlite.Value).Type", "(internal/reflectlite.Value).IsNil", "internal/reflectlite.TypeOf", "(internal/reflectlite.Value).Elem", "(internal/reflectlite.Value).Set"], unfollowed := true, recurses := true, named := ["errors.errorType"], apart := false, laid := [("errors.errorType", laid_errors_errorType)], narrowed := true }
def CalendarSyncsUptoSaid : Prop := calendarSyncsUptoRow.holds Tryd.pinned (OpenSpec.upto calendarSyncsSpec)

/-- 'geyserlaw18.CalendarRows', WHERE WHAT IT READS IS OF BULK AT MOST 1048576: true; the input reads as it did. -/
def calendarRowsUptoRow : OpenClaim := { program := "ytnhelpbchfeadaadoor", sum := "e2d7a3eaaf76165e30bf7a84b843bd8dd40e4325d30bf6303f22c891a3014759", func := "geyser/geyserlaw18.CalendarRows", spec := "calendarRows", inPlace := ["internal/reflectlite.ValueOf", "(internal/reflectlite.Value).Type", "(internal/reflectlite.Value).IsNil", "internal/reflectlite.TypeOf", "(internal/reflectlite.Value).Elem", "(internal/reflectlite.Value).Set"], unfollowed := true, recurses := true, named := ["errors.errorType"], apart := false, laid := [("errors.errorType", laid_errors_errorType)], narrowed := true }
def CalendarRowsUptoSaid : Prop := calendarRowsUptoRow.holds Tryd.pinned (OpenSpec.upto calendarRowsSpec)

/-- 'geyserlaw18.CalendarBursts', WHERE WHAT IT READS IS OF BULK AT MOST 1048576: true; the input reads as it did. -/
def calendarBurstsUptoRow : OpenClaim := { program := "ytnhelpbchfeadaadoor", sum := "e2d7a3eaaf76165e30bf7a84b843bd8dd40e4325d30bf6303f22c891a3014759", func := "geyser/geyserlaw18.CalendarBursts", spec := "calendarBursts", inPlace := ["internal/reflectlite.ValueOf", "(internal/reflectlite.Value).Type", "(internal/reflectlite.Value).IsNil", "internal/reflectlite.TypeOf", "(internal/reflectlite.Value).Elem", "(internal/reflectlite.Value).Set"], unfollowed := true, recurses := true, named := ["errors.errorType"], apart := false, laid := [("errors.errorType", laid_errors_errorType)], narrowed := true }
def CalendarBurstsUptoSaid : Prop := calendarBurstsUptoRow.holds Tryd.pinned (OpenSpec.upto calendarBurstsSpec)

/-- 'geyserlaw18.CalendarNexts', WHERE WHAT IT READS IS OF BULK AT MOST 1048576: true; the input reads as it did. -/
def calendarNextsUptoRow : OpenClaim := { program := "ytnhelpbchfeadaadoor", sum := "e2d7a3eaaf76165e30bf7a84b843bd8dd40e4325d30bf6303f22c891a3014759", func := "geyser/geyserlaw18.CalendarNexts", spec := "calendarNexts", inPlace := ["internal/reflectlite.ValueOf", "(internal/reflectlite.Value).Type", "(internal/reflectlite.Value).IsNil", "internal/reflectlite.TypeOf", "(internal/reflectlite.Value).Elem", "(internal/reflectlite.Value).Set"], unfollowed := true, recurses := true, named := ["errors.errorType"], apart := false, laid := [("errors.errorType", laid_errors_errorType)], narrowed := true }
def CalendarNextsUptoSaid : Prop := calendarNextsUptoRow.holds Tryd.pinned (OpenSpec.upto calendarNextsSpec)

end Rows
end Go.Proofs.YtnhelpbchfeadaaDoor
