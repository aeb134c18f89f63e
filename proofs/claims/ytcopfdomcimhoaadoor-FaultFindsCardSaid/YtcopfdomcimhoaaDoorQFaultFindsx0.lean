-- Written by a program of this session out of the translation. Lean checks it.
import Derived.Test.YtcopfdomcimhoaaDoorProg
import Derived.Below
import Derived.Deep.Draws
import Derived.Deep.AppendLies
import Derived.Maps.AppendAt
import Derived.OwnWalk
import Derived.Laws.BytesArg
import Derived.Laws.MakeOwn
import Derived.Laws.OwnMore
import Derived.Deep.OwnRows
import Derived.Tactics
import Derived.Lib.ConvBytes
import Derived.Laws.Slices
import Derived.WalkKit
import Derived.KernelRfl
import Derived.RowKit3
import Derived.Deep.LoopGhost
import Derived.Deep.QuietTactic
import Derived.BigQuiet
import Derived.WideLaws
import Derived.Deep.DeepCutAuto
import Derived.Deep.CutBlock
import Derived.Deep.RegionHeld3
import Derived.Laws.Rows
import Derived.Lib.AppendStr
import Derived.ArgAppend
import Derived.Laws.IdiomCopy
import Derived.OrdersHeld
import Derived.Laws.BitsLemmas
import Derived.RowKit
import Derived.Test.YtcopfdomcimhoaaDoorFun3
import Derived.Test.YtcopfdomcimhoaaDoorWWords
import Derived.Test.YtcopfdomcimhoaaDoorWLast
import Derived.Test.YtcopfdomcimhoaaDoorWTab
import Derived.Test.YtcopfdomcimhoaaDoorWFour
import Derived.Test.YtcopfdomcimhoaaDoorWQPut
import Derived.Test.YtcopfdomcimhoaaDoorWApart
import Derived.Test.YtcopfdomcimhoaaDoorWArr
import Derived.Test.YtcopfdomcimhoaaDoorWZeros
import Derived.Test.YtcopfdomcimhoaaDoorWFoot
import Derived.Test.YtcopfdomcimhoaaDoorWKept
import Derived.Test.YtcopfdomcimhoaaDoorWShare
import Derived.Test.YtcopfdomcimhoaaDoorWN
import Derived.Test.YtcopfdomcimhoaaDoorWFootNe
import Derived.Test.YtcopfdomcimhoaaDoorWAt
import Derived.Test.YtcopfdomcimhoaaDoorWEqStruct
import Derived.Test.YtcopfdomcimhoaaDoorWRepsOne
import Derived.Test.YtcopfdomcimhoaaDoorWInv
import Derived.Test.YtcopfdomcimhoaaDoorWInvWords
import Derived.Test.YtcopfdomcimhoaaDoorWGuard
import Derived.Test.YtcopfdomcimhoaaDoorWNEv
import Derived.Test.YtcopfdomcimhoaaDoorWMore
namespace Go.Proofs.YtcopfdomcimhoaaDoor.QFaultFinds
open Go.RowKit Go.Proofs.YtcopfdomcimhoaaDoor.ErP Go.Proofs.YtcopfdomcimhoaaDoor.As Go.Proofs.YtcopfdomcimhoaaDoorW.PrintWords Go.Proofs.YtcopfdomcimhoaaDoorW.PrintLast Go.Proofs.YtcopfdomcimhoaaDoorW.PrintMore
attribute [local go_sem] max2_int min2_int max_two min_two max_three min_three max_four min_four   -- for this text's walks alone
set_option linter.unusedVariables false
set_option linter.unusedSimpArgs false




theorem info9 : (Tryd.prog.info? 9).map (fun i => (i.zero, i.size, i.bytes)) = some (some (.string ⟨#[]⟩), 1, 16) := by kernel_rfl
-- the values' own types

end Go.Proofs.YtcopfdomcimhoaaDoor.QFaultFinds
