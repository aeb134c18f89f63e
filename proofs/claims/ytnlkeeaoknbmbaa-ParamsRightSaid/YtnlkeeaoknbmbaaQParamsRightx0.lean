-- Written by a program of this session out of the translation. Lean checks it.
import Derived.Test.YtnlkeeaoknbmbaaProg
import Derived.Below
import Derived.Deep.Draws
import Derived.Deep.AppendLies
import Derived.Maps.AppendAt
import Derived.OwnWalk
import Derived.Laws.BytesArg
import Derived.Laws.MakeOwn
import Derived.Laws.OwnMore
import Derived.Deep.OwnRows
import Derived.Tactics
import Derived.Lib.ConvBytes
import Derived.Laws.Slices
import Derived.WalkKit
import Derived.KernelRfl
import Derived.RowKit3
import Derived.Deep.LoopGhost
import Derived.Deep.QuietTactic
import Derived.BigQuiet
import Derived.WideLaws
import Derived.Deep.DeepCutAuto
import Derived.Deep.CutBlock
import Derived.Deep.RegionHeld3
import Derived.Laws.Rows
import Derived.Lib.AppendStr
import Derived.ArgAppend
import Derived.Laws.IdiomCopy
import Derived.OrdersHeld
import Derived.Laws.BitsLemmas
import Derived.RowKit
import Derived.Test.YtnlkeeaoknbmbaaEr
import Derived.Test.YtnlkeeaoknbmbaaFor
import Derived.Test.YtnlkeeaoknbmbaaWWords
import Derived.Test.YtnlkeeaoknbmbaaWLast
import Derived.Test.YtnlkeeaoknbmbaaWTab
import Derived.Test.YtnlkeeaoknbmbaaWFour
import Derived.Test.YtnlkeeaoknbmbaaWQPut
import Derived.Test.YtnlkeeaoknbmbaaWApart
import Derived.Test.YtnlkeeaoknbmbaaWArr
import Derived.Test.YtnlkeeaoknbmbaaWZeros
import Derived.Test.YtnlkeeaoknbmbaaWFoot
import Derived.Test.YtnlkeeaoknbmbaaWKept
import Derived.Test.YtnlkeeaoknbmbaaWShare
import Derived.Test.YtnlkeeaoknbmbaaWN
import Derived.Test.YtnlkeeaoknbmbaaWFootNe
import Derived.Test.YtnlkeeaoknbmbaaWAt
import Derived.Test.YtnlkeeaoknbmbaaWEqStruct
import Derived.Test.YtnlkeeaoknbmbaaWRepsOne
import Derived.Test.YtnlkeeaoknbmbaaWInv
import Derived.Test.YtnlkeeaoknbmbaaWInvWords
import Derived.Test.YtnlkeeaoknbmbaaWGuard
import Derived.Test.YtnlkeeaoknbmbaaWNEv
import Derived.Test.YtnlkeeaoknbmbaaWMore
namespace Go.Proofs.Ytnlkeeaoknbmbaa.QParamsRight
open Go.RowKit Go.Proofs.Ytnlkeeaoknbmbaa.Er Go.Proofs.YtnlkeeaoknbmbaaW.PrintWords Go.Proofs.YtnlkeeaoknbmbaaW.PrintLast Go.Proofs.YtnlkeeaoknbmbaaW.PrintMore
attribute [local go_sem] max2_int min2_int max_two min_two max_three min_three max_four min_four   -- for this text's walks alone
set_option linter.unusedVariables false
set_option linter.unusedSimpArgs false




-- the values' own types

end Go.Proofs.Ytnlkeeaoknbmbaa.QParamsRight
