-- Written by a program of this session out of the translation. Lean checks it.
import Derived.Test.YtnhelpbchfeadaaProg
import Derived.Below
import Derived.Deep.Draws
import Derived.Deep.AppendLies
import Derived.Maps.AppendAt
import Derived.OwnWalk
import Derived.Laws.BytesArg
import Derived.Laws.MakeOwn
import Derived.Laws.OwnMore
import Derived.Deep.OwnRows
import Derived.Tactics
import Derived.Lib.ConvBytes
import Derived.Laws.Slices
import Derived.WalkKit
import Derived.KernelRfl
import Derived.RowKit3
import Derived.Deep.LoopGhost
import Derived.Deep.QuietTactic
import Derived.BigQuiet
import Derived.WideLaws
import Derived.Deep.DeepCutAuto
import Derived.Deep.CutBlock
import Derived.Deep.RegionHeld3
import Derived.Laws.Rows
import Derived.Lib.AppendStr
import Derived.ArgAppend
import Derived.Laws.IdiomCopy
import Derived.OrdersHeld
import Derived.Laws.BitsLemmas
import Derived.RowKit
import Derived.Test.YtnhelpbchfeadaaEr
import Derived.Test.YtnhelpbchfeadaaWWords
import Derived.Test.YtnhelpbchfeadaaWLast
import Derived.Test.YtnhelpbchfeadaaWTab
import Derived.Test.YtnhelpbchfeadaaWFour
import Derived.Test.YtnhelpbchfeadaaWQPut
import Derived.Test.YtnhelpbchfeadaaWApart
import Derived.Test.YtnhelpbchfeadaaWArr
import Derived.Test.YtnhelpbchfeadaaWZeros
import Derived.Test.YtnhelpbchfeadaaWFoot
import Derived.Test.YtnhelpbchfeadaaWKept
import Derived.Test.YtnhelpbchfeadaaWShare
import Derived.Test.YtnhelpbchfeadaaWN
import Derived.Test.YtnhelpbchfeadaaWFootNe
import Derived.Test.YtnhelpbchfeadaaWAt
import Derived.Test.YtnhelpbchfeadaaWEqStruct
import Derived.Test.YtnhelpbchfeadaaWRepsOne
import Derived.Test.YtnhelpbchfeadaaWInv
import Derived.Test.YtnhelpbchfeadaaWInvWords
import Derived.Test.YtnhelpbchfeadaaWGuard
import Derived.Test.YtnhelpbchfeadaaWNEv
import Derived.Test.YtnhelpbchfeadaaWMore
namespace Go.Proofs.Ytnhelpbchfeadaa.QCalendarFollows
open Go.RowKit Go.Proofs.Ytnhelpbchfeadaa.Er Go.Proofs.YtnhelpbchfeadaaW.PrintWords Go.Proofs.YtnhelpbchfeadaaW.PrintLast Go.Proofs.YtnhelpbchfeadaaW.PrintMore
attribute [local go_sem] max2_int min2_int max_two min_two max_three min_three max_four min_four   -- for this text's walks alone
set_option linter.unusedVariables false
set_option linter.unusedSimpArgs false




theorem info28 : (Try.prog.info? 28).map (fun i => (i.zero, i.size, i.bytes)) = some (some (.int .u32 0), 1, 4) := by kernel_rfl
-- the values' own types

end Go.Proofs.Ytnhelpbchfeadaa.QCalendarFollows
