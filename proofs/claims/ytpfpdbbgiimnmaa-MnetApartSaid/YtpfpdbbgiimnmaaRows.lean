/-
  No cell of these rows narrows 'for every input' (looked for: loops, veiled, ifaces, maps, wideKeys, modest, calm, conditions, laid).
  DERIVED. THE GIVEN ROWS OF THIS SEAT. 4 by the template 'for every input the law returns true; each argument reads behind the call as it read before'; 0 by the template 'total and deterministic' (their statements: YtpfpdbbgiimnmaaTotals.lean).
  GIVEN WITH THE SEED: the statements are not yours to turn. If you find one false, say at which input.
  Laid BY PROGRAM, IN A SANDBOX (cutbox-rows.mjs): the forced cells as the released guide's own fill.sh prints them over the translation d0749fc05a727335… (all of the seat's roots in one cut). By AI agents, Wed Nov 11 2026. No macro, syntax, notation, axiom, sorry.
-/
import Derived.Test.YtpfpdbbgiimnmaaChecked
import GoSem.Claim
import GoSem.ClaimJoined
import GoSem.ClaimMapViews
import Derived.JoinedTies
import Derived.KernelRfl
namespace Go.Proofs.Ytpfpdbbgiimnmaa
/- THE CELL 'sum', in the pinned program and in every row, IS THE sha256 OF THE DUMP (.gsa) THAT YtpfpdbbgiimnmaaProg.lean LOADS. Nothing in Lean hashes anything: it is a label: what it is worth is what the hold of that sum in a sandbox is worth. -/
noncomputable def Try.pinned : Pinned := { name := "ytpfpdbbgiimnmaa", sum := "d0749fc05a72733521110658c114ee9baa26d456dc1403c624aac9bd6f13aeb5", checked := Try.checked }
namespace Rows
def none {H : Type} : Left H := { results := [], args := [] }

/-- 'geyserlaw22.MnetWhole': WHATEVER THE INPUT: true; the input reads as it did. -/
def mnetWholeSpec : ChangeSpec := { name := "mnetWhole", fn := fun _ => fun
  | [d1, d2] => { results := [.lit (.bool true)], args := [d1, d2] }
  | _ => none }
def mnetWholeRow : OpenClaim := { program := "ytpfpdbbgiimnmaa", sum := "d0749fc05a72733521110658c114ee9baa26d456dc1403c624aac9bd6f13aeb5", func := "geyser/geyserlaw22.MnetWhole", spec := "mnetWhole", apart := false }
def MnetWholeSaid : Prop := mnetWholeRow.holds Try.pinned (OpenSpec.ofChange mnetWholeSpec)

/-- ITS FALSE NEIGHBOUR: 'it returns false'. Refute it at one input. -/
def mnetWholeWrong : ChangeSpec := { name := "mnetWhole", fn := fun _ => fun
  | [d1, d2] => { results := [.lit (.bool false)], args := [d1, d2] }
  | _ => none }
def MnetWholeWrongFalsely : Prop := mnetWholeRow.holds Try.pinned (OpenSpec.ofChange mnetWholeWrong)

/-- 'geyserlaw22.MnetCapacity': WHATEVER THE INPUT: true; the input reads as it did. -/
def mnetCapacitySpec : ChangeSpec := { name := "mnetCapacity", fn := fun _ => fun
  | [d1, d2] => { results := [.lit (.bool true)], args := [d1, d2] }
  | _ => none }
def mnetCapacityRow : OpenClaim := { program := "ytpfpdbbgiimnmaa", sum := "d0749fc05a72733521110658c114ee9baa26d456dc1403c624aac9bd6f13aeb5", func := "geyser/geyserlaw22.MnetCapacity", spec := "mnetCapacity", apart := false }
def MnetCapacitySaid : Prop := mnetCapacityRow.holds Try.pinned (OpenSpec.ofChange mnetCapacitySpec)

/-- ITS FALSE NEIGHBOUR: 'it returns false'. Refute it at one input. -/
def mnetCapacityWrong : ChangeSpec := { name := "mnetCapacity", fn := fun _ => fun
  | [d1, d2] => { results := [.lit (.bool false)], args := [d1, d2] }
  | _ => none }
def MnetCapacityWrongFalsely : Prop := mnetCapacityRow.holds Try.pinned (OpenSpec.ofChange mnetCapacityWrong)

/-- 'geyserlaw22.MnetGrafts': WHATEVER THE INPUT: true; the input reads as it did. -/
def mnetGraftsSpec : ChangeSpec := { name := "mnetGrafts", fn := fun _ => fun
  | [d1, d2] => { results := [.lit (.bool true)], args := [d1, d2] }
  | _ => none }
def mnetGraftsRow : OpenClaim := { program := "ytpfpdbbgiimnmaa", sum := "d0749fc05a72733521110658c114ee9baa26d456dc1403c624aac9bd6f13aeb5", func := "geyser/geyserlaw22.MnetGrafts", spec := "mnetGrafts", apart := false }
def MnetGraftsSaid : Prop := mnetGraftsRow.holds Try.pinned (OpenSpec.ofChange mnetGraftsSpec)

/-- ITS FALSE NEIGHBOUR: 'it returns false'. Refute it at one input. -/
def mnetGraftsWrong : ChangeSpec := { name := "mnetGrafts", fn := fun _ => fun
  | [d1, d2] => { results := [.lit (.bool false)], args := [d1, d2] }
  | _ => none }
def MnetGraftsWrongFalsely : Prop := mnetGraftsRow.holds Try.pinned (OpenSpec.ofChange mnetGraftsWrong)

/-- 'geyserlaw22.MnetApart': WHATEVER THE INPUT: true; the input reads as it did. -/
def mnetApartSpec : ChangeSpec := { name := "mnetApart", fn := fun _ => fun
  | [d] => { results := [.lit (.bool true)], args := [d] }
  | _ => none }
def mnetApartRow : OpenClaim := { program := "ytpfpdbbgiimnmaa", sum := "d0749fc05a72733521110658c114ee9baa26d456dc1403c624aac9bd6f13aeb5", func := "geyser/geyserlaw22.MnetApart", spec := "mnetApart", apart := false }
def MnetApartSaid : Prop := mnetApartRow.holds Try.pinned (OpenSpec.ofChange mnetApartSpec)

/-- ITS FALSE NEIGHBOUR: 'it returns false'. Refute it at one input. -/
def mnetApartWrong : ChangeSpec := { name := "mnetApart", fn := fun _ => fun
  | [d] => { results := [.lit (.bool false)], args := [d] }
  | _ => none }
def MnetApartWrongFalsely : Prop := mnetApartRow.holds Try.pinned (OpenSpec.ofChange mnetApartWrong)

/- THE SECOND FORM. 'bulk': how many values and letters a reading holds, each counted each time it is reached (what is shared counts as often as it is met; a slice's spare places count too). A statement '..UptoSaid' is the law's where the arguments, and the package variables that the reading takes, are together of bulk at most 1048576: NARROWER than '..Said'. Prove '..Said' where nothing that the law and all that it calls make is longer than what came in: it says more and counts as full. Else prove '..UptoSaid'. A law counts once. -/
mutual
def uptoBulk {H : Type} : DataW H → Nat
  | .lit (.string bytes) => bytes.length + 1
  | .lit _ => 1
  | .nil => 1
  | .ptr d => uptoBulk d + 1
  | .slice elems spare => uptoBulkAll elems + uptoBulkAll spare + 1
  | .agg parts => uptoBulkAll parts + 1
  | .iface _ d => uptoBulk d + 1
  | .map entries => uptoBulkEntries entries + 1
  | .held _ => 1
def uptoBulkAll {H : Type} : List (DataW H) → Nat
  | [] => 0
  | d :: r => uptoBulk d + uptoBulkAll r
def uptoBulkEntries {H : Type} : List (Lit × DataW H) → Nat
  | [] => 0
  | x :: r => uptoBulkEntry x + uptoBulkEntries r
def uptoBulkEntry {H : Type} : Lit × DataW H → Nat
  | (.string bytes, d) => bytes.length + uptoBulk d + 1
  | (_, d) => uptoBulk d + 1
 end
def uptoSmall : (H : Type) → List (DataW H) → Bool := fun _ ds => decide (uptoBulkAll ds ≤ 1048576)
def OpenSpec.upto (s : _root_.Go.ChangeSpec) : _root_.Go.OpenSpec := { _root_.Go.OpenSpec.ofChange s with cond := some uptoSmall }

/-- 'geyserlaw22.MnetWhole', WHERE WHAT IT READS IS OF BULK AT MOST 1048576: true; the input reads as it did. -/
def mnetWholeUptoRow : OpenClaim := { program := "ytpfpdbbgiimnmaa", sum := "d0749fc05a72733521110658c114ee9baa26d456dc1403c624aac9bd6f13aeb5", func := "geyser/geyserlaw22.MnetWhole", spec := "mnetWhole", apart := false, narrowed := true }
def MnetWholeUptoSaid : Prop := mnetWholeUptoRow.holds Try.pinned (OpenSpec.upto mnetWholeSpec)

/-- 'geyserlaw22.MnetCapacity', WHERE WHAT IT READS IS OF BULK AT MOST 1048576: true; the input reads as it did. -/
def mnetCapacityUptoRow : OpenClaim := { program := "ytpfpdbbgiimnmaa", sum := "d0749fc05a72733521110658c114ee9baa26d456dc1403c624aac9bd6f13aeb5", func := "geyser/geyserlaw22.MnetCapacity", spec := "mnetCapacity", apart := false, narrowed := true }
def MnetCapacityUptoSaid : Prop := mnetCapacityUptoRow.holds Try.pinned (OpenSpec.upto mnetCapacitySpec)

/-- 'geyserlaw22.MnetGrafts', WHERE WHAT IT READS IS OF BULK AT MOST 1048576: true; the input reads as it did. -/
def mnetGraftsUptoRow : OpenClaim := { program := "ytpfpdbbgiimnmaa", sum := "d0749fc05a72733521110658c114ee9baa26d456dc1403c624aac9bd6f13aeb5", func := "geyser/geyserlaw22.MnetGrafts", spec := "mnetGrafts", apart := false, narrowed := true }
def MnetGraftsUptoSaid : Prop := mnetGraftsUptoRow.holds Try.pinned (OpenSpec.upto mnetGraftsSpec)

/-- 'geyserlaw22.MnetApart', WHERE WHAT IT READS IS OF BULK AT MOST 1048576: true; the input reads as it did. -/
def mnetApartUptoRow : OpenClaim := { program := "ytpfpdbbgiimnmaa", sum := "d0749fc05a72733521110658c114ee9baa26d456dc1403c624aac9bd6f13aeb5", func := "geyser/geyserlaw22.MnetApart", spec := "mnetApart", apart := false, narrowed := true }
def MnetApartUptoSaid : Prop := mnetApartUptoRow.holds Try.pinned (OpenSpec.upto mnetApartSpec)

end Rows
end Go.Proofs.Ytpfpdbbgiimnmaa
