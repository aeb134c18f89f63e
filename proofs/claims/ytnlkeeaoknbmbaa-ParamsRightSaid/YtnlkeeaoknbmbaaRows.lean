/-
  No cell of these rows narrows 'for every input' (looked for: loops, veiled, ifaces, maps, wideKeys, modest, calm, conditions, laid).
  DERIVED. THE GIVEN ROWS OF THIS SEAT. 3 by the template 'for every input the law returns true; each argument reads behind the call as it read before'; 0 by the template 'total and deterministic' (their statements: YtnlkeeaoknbmbaaTotals.lean).
  GIVEN WITH THE SEED: the statements are not yours to turn. If you find one false, say at which input.
  Laid BY PROGRAM, IN A SANDBOX (cutbox-rows.mjs): the forced cells as the released guide's own fill.sh prints them over the translation b479cfd2e10cdc13… (all of the seat's roots in one cut). By AI agents, Wed Nov 11 2026. No macro, syntax, notation, axiom, sorry.
-/
import Derived.Test.YtnlkeeaoknbmbaaChecked
import GoSem.Claim
import GoSem.ClaimJoined
import GoSem.ClaimMapViews
import Derived.JoinedTies
import Derived.KernelRfl
namespace Go.Proofs.Ytnlkeeaoknbmbaa
/- THE CELL 'sum', in the pinned program and in every row, IS THE sha256 OF THE DUMP (.gsa) THAT YtnlkeeaoknbmbaaProg.lean LOADS. Nothing in Lean hashes anything: it is a label: what it is worth is what the hold of that sum in a sandbox is worth. -/
noncomputable def Try.pinned : Pinned := { name := "ytnlkeeaoknbmbaa", sum := "b479cfd2e10cdc1383dd49afb555a4996df095cfc92a1ea380ee824b9dfb7774", checked := Try.checked }
namespace Rows
def none {H : Type} : Left H := { results := [], args := [] }

/-- 'geyserlaw08.ParamsLeast': WHATEVER THE INPUT: true; the input reads as it did. -/
def paramsLeastSpec : ChangeSpec := { name := "paramsLeast", fn := fun _ => fun
  | [d] => { results := [.lit (.bool true)], args := [d] }
  | _ => none }
def paramsLeastRow : OpenClaim := { program := "ytnlkeeaoknbmbaa", sum := "b479cfd2e10cdc1383dd49afb555a4996df095cfc92a1ea380ee824b9dfb7774", func := "geyser/geyserlaw08.ParamsLeast", spec := "paramsLeast", apart := false }
def ParamsLeastSaid : Prop := paramsLeastRow.holds Try.pinned (OpenSpec.ofChange paramsLeastSpec)

/-- ITS FALSE NEIGHBOUR: 'it returns false'. Refute it at one input. -/
def paramsLeastWrong : ChangeSpec := { name := "paramsLeast", fn := fun _ => fun
  | [d] => { results := [.lit (.bool false)], args := [d] }
  | _ => none }
def ParamsLeastWrongFalsely : Prop := paramsLeastRow.holds Try.pinned (OpenSpec.ofChange paramsLeastWrong)

/-- 'geyserlaw08.ParamsTriangle': WHATEVER THE INPUT: true; the input reads as it did. -/
def paramsTriangleSpec : ChangeSpec := { name := "paramsTriangle", fn := fun _ => fun
  | [d1, d2] => { results := [.lit (.bool true)], args := [d1, d2] }
  | _ => none }
def paramsTriangleRow : OpenClaim := { program := "ytnlkeeaoknbmbaa", sum := "b479cfd2e10cdc1383dd49afb555a4996df095cfc92a1ea380ee824b9dfb7774", func := "geyser/geyserlaw08.ParamsTriangle", spec := "paramsTriangle", apart := false }
def ParamsTriangleSaid : Prop := paramsTriangleRow.holds Try.pinned (OpenSpec.ofChange paramsTriangleSpec)

/-- ITS FALSE NEIGHBOUR: 'it returns false'. Refute it at one input. -/
def paramsTriangleWrong : ChangeSpec := { name := "paramsTriangle", fn := fun _ => fun
  | [d1, d2] => { results := [.lit (.bool false)], args := [d1, d2] }
  | _ => none }
def ParamsTriangleWrongFalsely : Prop := paramsTriangleRow.holds Try.pinned (OpenSpec.ofChange paramsTriangleWrong)

/-- 'geyserlaw08.ParamsRight': WHATEVER THE INPUT: true; the input reads as it did. -/
def paramsRightSpec : ChangeSpec := { name := "paramsRight", fn := fun _ => fun
  | [d] => { results := [.lit (.bool true)], args := [d] }
  | _ => none }
def paramsRightRow : OpenClaim := { program := "ytnlkeeaoknbmbaa", sum := "b479cfd2e10cdc1383dd49afb555a4996df095cfc92a1ea380ee824b9dfb7774", func := "geyser/geyserlaw08.ParamsRight", spec := "paramsRight", apart := false }
def ParamsRightSaid : Prop := paramsRightRow.holds Try.pinned (OpenSpec.ofChange paramsRightSpec)

/-- ITS FALSE NEIGHBOUR: 'it returns false'. Refute it at one input. -/
def paramsRightWrong : ChangeSpec := { name := "paramsRight", fn := fun _ => fun
  | [d] => { results := [.lit (.bool false)], args := [d] }
  | _ => none }
def ParamsRightWrongFalsely : Prop := paramsRightRow.holds Try.pinned (OpenSpec.ofChange paramsRightWrong)

/- THE SECOND FORM. 'bulk': how many values and letters a reading holds, each counted each time it is reached (what is shared counts as often as it is met; a slice's spare places count too). A statement '..UptoSaid' is the law's where the arguments, and the package variables that the reading takes, are together of bulk at most 1048576: NARROWER than '..Said'. Prove '..Said' where nothing that the law and all that it calls make is longer than what came in: it says more and counts as full. Else prove '..UptoSaid'. A law counts once. -/
mutual
def uptoBulk {H : Type} : DataW H → Nat
  | .lit (.string bytes) => bytes.length + 1
  | .lit _ => 1
  | .nil => 1
  | .ptr d => uptoBulk d + 1
  | .slice elems spare => uptoBulkAll elems + uptoBulkAll spare + 1
  | .agg parts => uptoBulkAll parts + 1
  | .iface _ d => uptoBulk d + 1
  | .map entries => uptoBulkEntries entries + 1
  | .held _ => 1
def uptoBulkAll {H : Type} : List (DataW H) → Nat
  | [] => 0
  | d :: r => uptoBulk d + uptoBulkAll r
def uptoBulkEntries {H : Type} : List (Lit × DataW H) → Nat
  | [] => 0
  | x :: r => uptoBulkEntry x + uptoBulkEntries r
def uptoBulkEntry {H : Type} : Lit × DataW H → Nat
  | (.string bytes, d) => bytes.length + uptoBulk d + 1
  | (_, d) => uptoBulk d + 1
 end
def uptoSmall : (H : Type) → List (DataW H) → Bool := fun _ ds => decide (uptoBulkAll ds ≤ 1048576)
def OpenSpec.upto (s : _root_.Go.ChangeSpec) : _root_.Go.OpenSpec := { _root_.Go.OpenSpec.ofChange s with cond := some uptoSmall }

/-- 'geyserlaw08.ParamsLeast', WHERE WHAT IT READS IS OF BULK AT MOST 1048576: true; the input reads as it did. -/
def paramsLeastUptoRow : OpenClaim := { program := "ytnlkeeaoknbmbaa", sum := "b479cfd2e10cdc1383dd49afb555a4996df095cfc92a1ea380ee824b9dfb7774", func := "geyser/geyserlaw08.ParamsLeast", spec := "paramsLeast", apart := false, narrowed := true }
def ParamsLeastUptoSaid : Prop := paramsLeastUptoRow.holds Try.pinned (OpenSpec.upto paramsLeastSpec)

/-- 'geyserlaw08.ParamsTriangle', WHERE WHAT IT READS IS OF BULK AT MOST 1048576: true; the input reads as it did. -/
def paramsTriangleUptoRow : OpenClaim := { program := "ytnlkeeaoknbmbaa", sum := "b479cfd2e10cdc1383dd49afb555a4996df095cfc92a1ea380ee824b9dfb7774", func := "geyser/geyserlaw08.ParamsTriangle", spec := "paramsTriangle", apart := false, narrowed := true }
def ParamsTriangleUptoSaid : Prop := paramsTriangleUptoRow.holds Try.pinned (OpenSpec.upto paramsTriangleSpec)

/-- 'geyserlaw08.ParamsRight', WHERE WHAT IT READS IS OF BULK AT MOST 1048576: true; the input reads as it did. -/
def paramsRightUptoRow : OpenClaim := { program := "ytnlkeeaoknbmbaa", sum := "b479cfd2e10cdc1383dd49afb555a4996df095cfc92a1ea380ee824b9dfb7774", func := "geyser/geyserlaw08.ParamsRight", spec := "paramsRight", apart := false, narrowed := true }
def ParamsRightUptoSaid : Prop := paramsRightUptoRow.holds Try.pinned (OpenSpec.upto paramsRightSpec)

end Rows
end Go.Proofs.Ytnlkeeaoknbmbaa
