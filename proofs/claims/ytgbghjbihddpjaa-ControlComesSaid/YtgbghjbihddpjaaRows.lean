/-
  No cell of these rows narrows 'for every input' (looked for: loops, veiled, ifaces, maps, wideKeys, modest, calm, conditions, laid).
  DERIVED. THE GIVEN ROWS OF THIS SEAT. 4 by the template 'for every input the law returns true; each argument reads behind the call as it read before'; 0 by the template 'total and deterministic' (their statements: YtgbghjbihddpjaaTotals.lean).
  GIVEN WITH THE SEED: the statements are not yours to turn. If you find one false, say at which input.
  Laid BY PROGRAM, IN A SANDBOX (cutbox-rows.mjs): the forced cells as the released guide's own fill.sh prints them over the translation 36481e0c8b581191… (all of the seat's roots in one cut). By AI agents, Wed Nov 11 2026. No macro, syntax, notation, axiom, sorry.
-/
import Derived.Test.YtgbghjbihddpjaaChecked
import GoSem.Claim
import GoSem.ClaimJoined
import GoSem.ClaimMapViews
import Derived.JoinedTies
import Derived.KernelRfl
namespace Go.Proofs.Ytgbghjbihddpjaa
/- THE CELL 'sum', in the pinned program and in every row, IS THE sha256 OF THE DUMP (.gsa) THAT YtgbghjbihddpjaaProg.lean LOADS. Nothing in Lean hashes anything: it is a label: what it is worth is what the hold of that sum in a sandbox is worth. -/
noncomputable def Try.pinned : Pinned := { name := "ytgbghjbihddpjaa", sum := "36481e0c8b581191aa77374fdfde3bd8360744623bd373d0b326b9efb8125740", checked := Try.checked }
namespace Rows
def none {H : Type} : Left H := { results := [], args := [] }

/-- 'geyserlaw21.ControlBounds': WHATEVER THE INPUT: true; the input reads as it did. -/
def controlBoundsSpec : ChangeSpec := { name := "controlBounds", fn := fun _ => fun
  | [d1, d2, d3] => { results := [.lit (.bool true)], args := [d1, d2, d3] }
  | _ => none }
def controlBoundsRow : OpenClaim := { program := "ytgbghjbihddpjaa", sum := "36481e0c8b581191aa77374fdfde3bd8360744623bd373d0b326b9efb8125740", func := "geyser/geyserlaw21.ControlBounds", spec := "controlBounds", apart := false }
def ControlBoundsSaid : Prop := controlBoundsRow.holds Try.pinned (OpenSpec.ofChange controlBoundsSpec)

/-- ITS FALSE NEIGHBOUR: 'it returns false'. Refute it at one input. -/
def controlBoundsWrong : ChangeSpec := { name := "controlBounds", fn := fun _ => fun
  | [d1, d2, d3] => { results := [.lit (.bool false)], args := [d1, d2, d3] }
  | _ => none }
def ControlBoundsWrongFalsely : Prop := controlBoundsRow.holds Try.pinned (OpenSpec.ofChange controlBoundsWrong)

/-- 'geyserlaw21.ControlRises': WHATEVER THE INPUT: true; the input reads as it did. -/
def controlRisesSpec : ChangeSpec := { name := "controlRises", fn := fun _ => fun
  | [d1, d2, d3] => { results := [.lit (.bool true)], args := [d1, d2, d3] }
  | _ => none }
def controlRisesRow : OpenClaim := { program := "ytgbghjbihddpjaa", sum := "36481e0c8b581191aa77374fdfde3bd8360744623bd373d0b326b9efb8125740", func := "geyser/geyserlaw21.ControlRises", spec := "controlRises", apart := false }
def ControlRisesSaid : Prop := controlRisesRow.holds Try.pinned (OpenSpec.ofChange controlRisesSpec)

/-- ITS FALSE NEIGHBOUR: 'it returns false'. Refute it at one input. -/
def controlRisesWrong : ChangeSpec := { name := "controlRises", fn := fun _ => fun
  | [d1, d2, d3] => { results := [.lit (.bool false)], args := [d1, d2, d3] }
  | _ => none }
def ControlRisesWrongFalsely : Prop := controlRisesRow.holds Try.pinned (OpenSpec.ofChange controlRisesWrong)

/-- 'geyserlaw21.ControlFalls': WHATEVER THE INPUT: true; the input reads as it did. -/
def controlFallsSpec : ChangeSpec := { name := "controlFalls", fn := fun _ => fun
  | [d1, d2, d3] => { results := [.lit (.bool true)], args := [d1, d2, d3] }
  | _ => none }
def controlFallsRow : OpenClaim := { program := "ytgbghjbihddpjaa", sum := "36481e0c8b581191aa77374fdfde3bd8360744623bd373d0b326b9efb8125740", func := "geyser/geyserlaw21.ControlFalls", spec := "controlFalls", apart := false }
def ControlFallsSaid : Prop := controlFallsRow.holds Try.pinned (OpenSpec.ofChange controlFallsSpec)

/-- ITS FALSE NEIGHBOUR: 'it returns false'. Refute it at one input. -/
def controlFallsWrong : ChangeSpec := { name := "controlFalls", fn := fun _ => fun
  | [d1, d2, d3] => { results := [.lit (.bool false)], args := [d1, d2, d3] }
  | _ => none }
def ControlFallsWrongFalsely : Prop := controlFallsRow.holds Try.pinned (OpenSpec.ofChange controlFallsWrong)

/-- 'geyserlaw21.ControlComes': WHATEVER THE INPUT: true; the input reads as it did. -/
def controlComesSpec : ChangeSpec := { name := "controlComes", fn := fun _ => fun
  | [d] => { results := [.lit (.bool true)], args := [d] }
  | _ => none }
def controlComesRow : OpenClaim := { program := "ytgbghjbihddpjaa", sum := "36481e0c8b581191aa77374fdfde3bd8360744623bd373d0b326b9efb8125740", func := "geyser/geyserlaw21.ControlComes", spec := "controlComes", apart := false }
def ControlComesSaid : Prop := controlComesRow.holds Try.pinned (OpenSpec.ofChange controlComesSpec)

/-- ITS FALSE NEIGHBOUR: 'it returns false'. Refute it at one input. -/
def controlComesWrong : ChangeSpec := { name := "controlComes", fn := fun _ => fun
  | [d] => { results := [.lit (.bool false)], args := [d] }
  | _ => none }
def ControlComesWrongFalsely : Prop := controlComesRow.holds Try.pinned (OpenSpec.ofChange controlComesWrong)

/- THE SECOND FORM. 'bulk': how many values and letters a reading holds, each counted each time it is reached (what is shared counts as often as it is met; a slice's spare places count too). A statement '..UptoSaid' is the law's where the arguments, and the package variables that the reading takes, are together of bulk at most 1048576: NARROWER than '..Said'. Prove '..Said' where nothing that the law and all that it calls make is longer than what came in: it says more and counts as full. Else prove '..UptoSaid'. A law counts once. -/
mutual
def uptoBulk {H : Type} : DataW H → Nat
  | .lit (.string bytes) => bytes.length + 1
  | .lit _ => 1
  | .nil => 1
  | .ptr d => uptoBulk d + 1
  | .slice elems spare => uptoBulkAll elems + uptoBulkAll spare + 1
  | .agg parts => uptoBulkAll parts + 1
  | .iface _ d => uptoBulk d + 1
  | .map entries => uptoBulkEntries entries + 1
  | .held _ => 1
def uptoBulkAll {H : Type} : List (DataW H) → Nat
  | [] => 0
  | d :: r => uptoBulk d + uptoBulkAll r
def uptoBulkEntries {H : Type} : List (Lit × DataW H) → Nat
  | [] => 0
  | x :: r => uptoBulkEntry x + uptoBulkEntries r
def uptoBulkEntry {H : Type} : Lit × DataW H → Nat
  | (.string bytes, d) => bytes.length + uptoBulk d + 1
  | (_, d) => uptoBulk d + 1
 end
def uptoSmall : (H : Type) → List (DataW H) → Bool := fun _ ds => decide (uptoBulkAll ds ≤ 1048576)
def OpenSpec.upto (s : _root_.Go.ChangeSpec) : _root_.Go.OpenSpec := { _root_.Go.OpenSpec.ofChange s with cond := some uptoSmall }

/-- 'geyserlaw21.ControlBounds', WHERE WHAT IT READS IS OF BULK AT MOST 1048576: true; the input reads as it did. -/
def controlBoundsUptoRow : OpenClaim := { program := "ytgbghjbihddpjaa", sum := "36481e0c8b581191aa77374fdfde3bd8360744623bd373d0b326b9efb8125740", func := "geyser/geyserlaw21.ControlBounds", spec := "controlBounds", apart := false, narrowed := true }
def ControlBoundsUptoSaid : Prop := controlBoundsUptoRow.holds Try.pinned (OpenSpec.upto controlBoundsSpec)

/-- 'geyserlaw21.ControlRises', WHERE WHAT IT READS IS OF BULK AT MOST 1048576: true; the input reads as it did. -/
def controlRisesUptoRow : OpenClaim := { program := "ytgbghjbihddpjaa", sum := "36481e0c8b581191aa77374fdfde3bd8360744623bd373d0b326b9efb8125740", func := "geyser/geyserlaw21.ControlRises", spec := "controlRises", apart := false, narrowed := true }
def ControlRisesUptoSaid : Prop := controlRisesUptoRow.holds Try.pinned (OpenSpec.upto controlRisesSpec)

/-- 'geyserlaw21.ControlFalls', WHERE WHAT IT READS IS OF BULK AT MOST 1048576: true; the input reads as it did. -/
def controlFallsUptoRow : OpenClaim := { program := "ytgbghjbihddpjaa", sum := "36481e0c8b581191aa77374fdfde3bd8360744623bd373d0b326b9efb8125740", func := "geyser/geyserlaw21.ControlFalls", spec := "controlFalls", apart := false, narrowed := true }
def ControlFallsUptoSaid : Prop := controlFallsUptoRow.holds Try.pinned (OpenSpec.upto controlFallsSpec)

/-- 'geyserlaw21.ControlComes', WHERE WHAT IT READS IS OF BULK AT MOST 1048576: true; the input reads as it did. -/
def controlComesUptoRow : OpenClaim := { program := "ytgbghjbihddpjaa", sum := "36481e0c8b581191aa77374fdfde3bd8360744623bd373d0b326b9efb8125740", func := "geyser/geyserlaw21.ControlComes", spec := "controlComes", apart := false, narrowed := true }
def ControlComesUptoSaid : Prop := controlComesUptoRow.holds Try.pinned (OpenSpec.upto controlComesSpec)

end Rows
end Go.Proofs.Ytgbghjbihddpjaa
