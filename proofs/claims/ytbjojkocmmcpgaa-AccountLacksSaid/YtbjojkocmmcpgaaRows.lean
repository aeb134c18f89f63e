/-
  No cell of these rows narrows 'for every input' (looked for: loops, veiled, ifaces, maps, wideKeys, modest, calm, conditions, laid).
  DERIVED. THE GIVEN ROWS OF THIS SEAT. 4 by the template 'for every input the law returns true; each argument reads behind the call as it read before'; 0 by the template 'total and deterministic' (their statements: YtbjojkocmmcpgaaTotals.lean).
  GIVEN WITH THE SEED: the statements are not yours to turn. If you find one false, say at which input.
  Laid BY PROGRAM, IN A SANDBOX (cutbox-rows.mjs): the forced cells as the released guide's own fill.sh prints them over the translation 3ce3aa6274e0c377… (all of the seat's roots in one cut). By AI agents, Wed Nov 11 2026. No macro, syntax, notation, axiom, sorry.
-/
import Derived.Test.YtbjojkocmmcpgaaChecked
import GoSem.Claim
import GoSem.ClaimJoined
import GoSem.ClaimMapViews
import Derived.JoinedTies
import Derived.KernelRfl
namespace Go.Proofs.Ytbjojkocmmcpgaa
/- THE CELL 'sum', in the pinned program and in every row, IS THE sha256 OF THE DUMP (.gsa) THAT YtbjojkocmmcpgaaProg.lean LOADS. Nothing in Lean hashes anything: it is a label: what it is worth is what the hold of that sum in a sandbox is worth. -/
noncomputable def Try.pinned : Pinned := { name := "ytbjojkocmmcpgaa", sum := "3ce3aa6274e0c3773aa2fdb49adc30ecd73edcb1de82cb9d98fcca78d0e921a2", checked := Try.checked }
namespace Rows
def none {H : Type} : Left H := { results := [], args := [] }

/-- 'geyserlaw20.AccountGaps': WHATEVER THE INPUT: true; the input reads as it did. -/
def accountGapsSpec : ChangeSpec := { name := "accountGaps", fn := fun _ => fun
  | [d1, d2] => { results := [.lit (.bool true)], args := [d1, d2] }
  | _ => none }
def accountGapsRow : OpenClaim := { program := "ytbjojkocmmcpgaa", sum := "3ce3aa6274e0c3773aa2fdb49adc30ecd73edcb1de82cb9d98fcca78d0e921a2", func := "geyser/geyserlaw20.AccountGaps", spec := "accountGaps", apart := false }
def AccountGapsSaid : Prop := accountGapsRow.holds Try.pinned (OpenSpec.ofChange accountGapsSpec)

/-- ITS FALSE NEIGHBOUR: 'it returns false'. Refute it at one input. -/
def accountGapsWrong : ChangeSpec := { name := "accountGaps", fn := fun _ => fun
  | [d1, d2] => { results := [.lit (.bool false)], args := [d1, d2] }
  | _ => none }
def AccountGapsWrongFalsely : Prop := accountGapsRow.holds Try.pinned (OpenSpec.ofChange accountGapsWrong)

/-- 'geyserlaw20.AccountWhole': WHATEVER THE INPUT: true; the input reads as it did. -/
def accountWholeSpec : ChangeSpec := { name := "accountWhole", fn := fun _ => fun
  | [d] => { results := [.lit (.bool true)], args := [d] }
  | _ => none }
def accountWholeRow : OpenClaim := { program := "ytbjojkocmmcpgaa", sum := "3ce3aa6274e0c3773aa2fdb49adc30ecd73edcb1de82cb9d98fcca78d0e921a2", func := "geyser/geyserlaw20.AccountWhole", spec := "accountWhole", apart := false }
def AccountWholeSaid : Prop := accountWholeRow.holds Try.pinned (OpenSpec.ofChange accountWholeSpec)

/-- ITS FALSE NEIGHBOUR: 'it returns false'. Refute it at one input. -/
def accountWholeWrong : ChangeSpec := { name := "accountWhole", fn := fun _ => fun
  | [d] => { results := [.lit (.bool false)], args := [d] }
  | _ => none }
def AccountWholeWrongFalsely : Prop := accountWholeRow.holds Try.pinned (OpenSpec.ofChange accountWholeWrong)

/-- 'geyserlaw20.AccountLacks': WHATEVER THE INPUT: true; the input reads as it did. -/
def accountLacksSpec : ChangeSpec := { name := "accountLacks", fn := fun _ => fun
  | [d1, d2] => { results := [.lit (.bool true)], args := [d1, d2] }
  | _ => none }
def accountLacksRow : OpenClaim := { program := "ytbjojkocmmcpgaa", sum := "3ce3aa6274e0c3773aa2fdb49adc30ecd73edcb1de82cb9d98fcca78d0e921a2", func := "geyser/geyserlaw20.AccountLacks", spec := "accountLacks", apart := false }
def AccountLacksSaid : Prop := accountLacksRow.holds Try.pinned (OpenSpec.ofChange accountLacksSpec)

/-- ITS FALSE NEIGHBOUR: 'it returns false'. Refute it at one input. -/
def accountLacksWrong : ChangeSpec := { name := "accountLacks", fn := fun _ => fun
  | [d1, d2] => { results := [.lit (.bool false)], args := [d1, d2] }
  | _ => none }
def AccountLacksWrongFalsely : Prop := accountLacksRow.holds Try.pinned (OpenSpec.ofChange accountLacksWrong)

/-- 'geyserlaw20.AccountTwice': WHATEVER THE INPUT: true; the input reads as it did. -/
def accountTwiceSpec : ChangeSpec := { name := "accountTwice", fn := fun _ => fun
  | [d] => { results := [.lit (.bool true)], args := [d] }
  | _ => none }
def accountTwiceRow : OpenClaim := { program := "ytbjojkocmmcpgaa", sum := "3ce3aa6274e0c3773aa2fdb49adc30ecd73edcb1de82cb9d98fcca78d0e921a2", func := "geyser/geyserlaw20.AccountTwice", spec := "accountTwice", apart := false }
def AccountTwiceSaid : Prop := accountTwiceRow.holds Try.pinned (OpenSpec.ofChange accountTwiceSpec)

/-- ITS FALSE NEIGHBOUR: 'it returns false'. Refute it at one input. -/
def accountTwiceWrong : ChangeSpec := { name := "accountTwice", fn := fun _ => fun
  | [d] => { results := [.lit (.bool false)], args := [d] }
  | _ => none }
def AccountTwiceWrongFalsely : Prop := accountTwiceRow.holds Try.pinned (OpenSpec.ofChange accountTwiceWrong)

/- THE SECOND FORM. 'bulk': how many values and letters a reading holds, each counted each time it is reached (what is shared counts as often as it is met; a slice's spare places count too). A statement '..UptoSaid' is the law's where the arguments, and the package variables that the reading takes, are together of bulk at most 1048576: NARROWER than '..Said'. Prove '..Said' where nothing that the law and all that it calls make is longer than what came in: it says more and counts as full. Else prove '..UptoSaid'. A law counts once. -/
mutual
def uptoBulk {H : Type} : DataW H → Nat
  | .lit (.string bytes) => bytes.length + 1
  | .lit _ => 1
  | .nil => 1
  | .ptr d => uptoBulk d + 1
  | .slice elems spare => uptoBulkAll elems + uptoBulkAll spare + 1
  | .agg parts => uptoBulkAll parts + 1
  | .iface _ d => uptoBulk d + 1
  | .map entries => uptoBulkEntries entries + 1
  | .held _ => 1
def uptoBulkAll {H : Type} : List (DataW H) → Nat
  | [] => 0
  | d :: r => uptoBulk d + uptoBulkAll r
def uptoBulkEntries {H : Type} : List (Lit × DataW H) → Nat
  | [] => 0
  | x :: r => uptoBulkEntry x + uptoBulkEntries r
def uptoBulkEntry {H : Type} : Lit × DataW H → Nat
  | (.string bytes, d) => bytes.length + uptoBulk d + 1
  | (_, d) => uptoBulk d + 1
 end
def uptoSmall : (H : Type) → List (DataW H) → Bool := fun _ ds => decide (uptoBulkAll ds ≤ 1048576)
def OpenSpec.upto (s : _root_.Go.ChangeSpec) : _root_.Go.OpenSpec := { _root_.Go.OpenSpec.ofChange s with cond := some uptoSmall }

/-- 'geyserlaw20.AccountGaps', WHERE WHAT IT READS IS OF BULK AT MOST 1048576: true; the input reads as it did. -/
def accountGapsUptoRow : OpenClaim := { program := "ytbjojkocmmcpgaa", sum := "3ce3aa6274e0c3773aa2fdb49adc30ecd73edcb1de82cb9d98fcca78d0e921a2", func := "geyser/geyserlaw20.AccountGaps", spec := "accountGaps", apart := false, narrowed := true }
def AccountGapsUptoSaid : Prop := accountGapsUptoRow.holds Try.pinned (OpenSpec.upto accountGapsSpec)

/-- 'geyserlaw20.AccountWhole', WHERE WHAT IT READS IS OF BULK AT MOST 1048576: true; the input reads as it did. -/
def accountWholeUptoRow : OpenClaim := { program := "ytbjojkocmmcpgaa", sum := "3ce3aa6274e0c3773aa2fdb49adc30ecd73edcb1de82cb9d98fcca78d0e921a2", func := "geyser/geyserlaw20.AccountWhole", spec := "accountWhole", apart := false, narrowed := true }
def AccountWholeUptoSaid : Prop := accountWholeUptoRow.holds Try.pinned (OpenSpec.upto accountWholeSpec)

/-- 'geyserlaw20.AccountLacks', WHERE WHAT IT READS IS OF BULK AT MOST 1048576: true; the input reads as it did. -/
def accountLacksUptoRow : OpenClaim := { program := "ytbjojkocmmcpgaa", sum := "3ce3aa6274e0c3773aa2fdb49adc30ecd73edcb1de82cb9d98fcca78d0e921a2", func := "geyser/geyserlaw20.AccountLacks", spec := "accountLacks", apart := false, narrowed := true }
def AccountLacksUptoSaid : Prop := accountLacksUptoRow.holds Try.pinned (OpenSpec.upto accountLacksSpec)

/-- 'geyserlaw20.AccountTwice', WHERE WHAT IT READS IS OF BULK AT MOST 1048576: true; the input reads as it did. -/
def accountTwiceUptoRow : OpenClaim := { program := "ytbjojkocmmcpgaa", sum := "3ce3aa6274e0c3773aa2fdb49adc30ecd73edcb1de82cb9d98fcca78d0e921a2", func := "geyser/geyserlaw20.AccountTwice", spec := "accountTwice", apart := false, narrowed := true }
def AccountTwiceUptoSaid : Prop := accountTwiceUptoRow.holds Try.pinned (OpenSpec.upto accountTwiceSpec)

end Rows
end Go.Proofs.Ytbjojkocmmcpgaa
