-- Written by a program of this session out of the translation. Lean checks it.
import Derived.Test.YtakhbcmhfgjocaaDoorProg
import Derived.Below
import Derived.Deep.Draws
import Derived.Deep.AppendLies
import Derived.Maps.AppendAt
import Derived.OwnWalk
import Derived.Laws.BytesArg
import Derived.Laws.MakeOwn
import Derived.Laws.OwnMore
import Derived.Deep.OwnRows
import Derived.Tactics
import Derived.Lib.ConvBytes
import Derived.Laws.Slices
import Derived.WalkKit
import Derived.KernelRfl
import Derived.RowKit3
import Derived.Deep.LoopGhost
import Derived.Deep.QuietTactic
import Derived.BigQuiet
import Derived.WideLaws
import Derived.Deep.DeepCutAuto
import Derived.Deep.CutBlock
import Derived.Deep.RegionHeld3
import Derived.Laws.Rows
import Derived.Lib.AppendStr
import Derived.ArgAppend
import Derived.Laws.IdiomCopy
import Derived.OrdersHeld
import Derived.Laws.BitsLemmas
import Derived.RowKit
import Derived.Test.YtakhbcmhfgjocaaDoorTells06
import Derived.Test.YtakhbcmhfgjocaaDoorWWords
import Derived.Test.YtakhbcmhfgjocaaDoorWLast
import Derived.Test.YtakhbcmhfgjocaaDoorWTab
import Derived.Test.YtakhbcmhfgjocaaDoorWFour
import Derived.Test.YtakhbcmhfgjocaaDoorWQPut
import Derived.Test.YtakhbcmhfgjocaaDoorWApart
import Derived.Test.YtakhbcmhfgjocaaDoorWArr
import Derived.Test.YtakhbcmhfgjocaaDoorWZeros
import Derived.Test.YtakhbcmhfgjocaaDoorWFoot
import Derived.Test.YtakhbcmhfgjocaaDoorWKept
import Derived.Test.YtakhbcmhfgjocaaDoorWShare
import Derived.Test.YtakhbcmhfgjocaaDoorWN
import Derived.Test.YtakhbcmhfgjocaaDoorWFootNe
import Derived.Test.YtakhbcmhfgjocaaDoorWAt
import Derived.Test.YtakhbcmhfgjocaaDoorWEqStruct
import Derived.Test.YtakhbcmhfgjocaaDoorWRepsOne
import Derived.Test.YtakhbcmhfgjocaaDoorWInv
import Derived.Test.YtakhbcmhfgjocaaDoorWInvWords
import Derived.Test.YtakhbcmhfgjocaaDoorWGuard
import Derived.Test.YtakhbcmhfgjocaaDoorWNEv
import Derived.Test.YtakhbcmhfgjocaaDoorWMore
namespace Go.Proofs.YtakhbcmhfgjocaaDoor.QMixRows
open Go.RowKit Go.Proofs.YtakhbcmhfgjocaaDoor.Er Go.Proofs.YtakhbcmhfgjocaaDoor.As Go.Proofs.YtakhbcmhfgjocaaDoor.Tells Go.Proofs.YtakhbcmhfgjocaaDoorW.PrintWords Go.Proofs.YtakhbcmhfgjocaaDoorW.PrintLast Go.Proofs.YtakhbcmhfgjocaaDoorW.PrintMore
attribute [local go_sem] max2_int min2_int max_two min_two max_three min_three max_four min_four   -- for this text's walks alone
set_option linter.unusedVariables false
set_option linter.unusedSimpArgs false




theorem info3 : (Tryd.prog.info? 3).map (fun i => (i.zero, i.size, i.bytes)) = some (some (.int .i64 0), 1, 8) := by kernel_rfl
-- the values' own types

end Go.Proofs.YtakhbcmhfgjocaaDoor.QMixRows
