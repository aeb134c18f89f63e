-- Written by a program of this session out of the translation. Lean checks it.
import Derived.Test.YtnhelpbchfeadaaDoorProg
import Derived.Below
import Derived.Deep.Draws
import Derived.Deep.AppendLies
import Derived.Maps.AppendAt
import Derived.OwnWalk
import Derived.Laws.BytesArg
import Derived.Laws.MakeOwn
import Derived.Laws.OwnMore
import Derived.Deep.OwnRows
import Derived.Tactics
import Derived.Lib.ConvBytes
import Derived.Laws.Slices
import Derived.WalkKit
import Derived.KernelRfl
import Derived.RowKit3
import Derived.Deep.LoopGhost
import Derived.Deep.QuietTactic
import Derived.BigQuiet
import Derived.WideLaws
import Derived.Deep.DeepCutAuto
import Derived.Deep.CutBlock
import Derived.Deep.RegionHeld3
import Derived.Laws.Rows
import Derived.Lib.AppendStr
import Derived.ArgAppend
import Derived.Laws.IdiomCopy
import Derived.OrdersHeld
import Derived.Laws.BitsLemmas
import Derived.RowKit
import Derived.Test.YtnhelpbchfeadaaDoorTells18
import Derived.Test.YtnhelpbchfeadaaDoorWWords
import Derived.Test.YtnhelpbchfeadaaDoorWLast
import Derived.Test.YtnhelpbchfeadaaDoorWTab
import Derived.Test.YtnhelpbchfeadaaDoorWFour
import Derived.Test.YtnhelpbchfeadaaDoorWQPut
import Derived.Test.YtnhelpbchfeadaaDoorWApart
import Derived.Test.YtnhelpbchfeadaaDoorWArr
import Derived.Test.YtnhelpbchfeadaaDoorWZeros
import Derived.Test.YtnhelpbchfeadaaDoorWFoot
import Derived.Test.YtnhelpbchfeadaaDoorWKept
import Derived.Test.YtnhelpbchfeadaaDoorWShare
import Derived.Test.YtnhelpbchfeadaaDoorWN
import Derived.Test.YtnhelpbchfeadaaDoorWFootNe
import Derived.Test.YtnhelpbchfeadaaDoorWAt
import Derived.Test.YtnhelpbchfeadaaDoorWEqStruct
import Derived.Test.YtnhelpbchfeadaaDoorWRepsOne
import Derived.Test.YtnhelpbchfeadaaDoorWInv
import Derived.Test.YtnhelpbchfeadaaDoorWInvWords
import Derived.Test.YtnhelpbchfeadaaDoorWGuard
import Derived.Test.YtnhelpbchfeadaaDoorWNEv
import Derived.Test.YtnhelpbchfeadaaDoorWMore
namespace Go.Proofs.YtnhelpbchfeadaaDoor.QCalendarRows
open Go.RowKit Go.Proofs.YtnhelpbchfeadaaDoor.Er Go.Proofs.YtnhelpbchfeadaaDoor.As Go.Proofs.YtnhelpbchfeadaaDoor.Tells Go.Proofs.YtnhelpbchfeadaaDoorW.PrintWords Go.Proofs.YtnhelpbchfeadaaDoorW.PrintLast Go.Proofs.YtnhelpbchfeadaaDoorW.PrintMore
attribute [local go_sem] max2_int min2_int max_two min_two max_three min_three max_four min_four   -- for this text's walks alone
set_option linter.unusedVariables false
set_option linter.unusedSimpArgs false




theorem info47 : (Tryd.prog.info? 47).map (fun i => (i.zero, i.size, i.bytes)) = some (some (.int .u32 0), 1, 4) := by kernel_rfl
-- the values' own types

end Go.Proofs.YtnhelpbchfeadaaDoor.QCalendarRows
