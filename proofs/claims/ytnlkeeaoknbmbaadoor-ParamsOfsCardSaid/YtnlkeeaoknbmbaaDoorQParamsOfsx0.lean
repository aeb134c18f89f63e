-- Written by a program of this session out of the translation. Lean checks it.
import Derived.Test.YtnlkeeaoknbmbaaDoorProg
import Derived.Below
import Derived.Deep.Draws
import Derived.Deep.AppendLies
import Derived.Maps.AppendAt
import Derived.OwnWalk
import Derived.Laws.BytesArg
import Derived.Laws.MakeOwn
import Derived.Laws.OwnMore
import Derived.Deep.OwnRows
import Derived.Tactics
import Derived.Lib.ConvBytes
import Derived.Laws.Slices
import Derived.WalkKit
import Derived.KernelRfl
import Derived.RowKit3
import Derived.Deep.LoopGhost
import Derived.Deep.QuietTactic
import Derived.BigQuiet
import Derived.WideLaws
import Derived.Deep.DeepCutAuto
import Derived.Deep.CutBlock
import Derived.Deep.RegionHeld3
import Derived.Laws.Rows
import Derived.Lib.AppendStr
import Derived.ArgAppend
import Derived.Laws.IdiomCopy
import Derived.OrdersHeld
import Derived.Laws.BitsLemmas
import Derived.RowKit
import Derived.Test.YtnlkeeaoknbmbaaDoorTells08
import Derived.Test.YtnlkeeaoknbmbaaDoorFor
import Derived.Test.YtnlkeeaoknbmbaaDoorWWords
import Derived.Test.YtnlkeeaoknbmbaaDoorWLast
import Derived.Test.YtnlkeeaoknbmbaaDoorWTab
import Derived.Test.YtnlkeeaoknbmbaaDoorWFour
import Derived.Test.YtnlkeeaoknbmbaaDoorWQPut
import Derived.Test.YtnlkeeaoknbmbaaDoorWApart
import Derived.Test.YtnlkeeaoknbmbaaDoorWArr
import Derived.Test.YtnlkeeaoknbmbaaDoorWZeros
import Derived.Test.YtnlkeeaoknbmbaaDoorWFoot
import Derived.Test.YtnlkeeaoknbmbaaDoorWKept
import Derived.Test.YtnlkeeaoknbmbaaDoorWShare
import Derived.Test.YtnlkeeaoknbmbaaDoorWN
import Derived.Test.YtnlkeeaoknbmbaaDoorWFootNe
import Derived.Test.YtnlkeeaoknbmbaaDoorWAt
import Derived.Test.YtnlkeeaoknbmbaaDoorWEqStruct
import Derived.Test.YtnlkeeaoknbmbaaDoorWRepsOne
import Derived.Test.YtnlkeeaoknbmbaaDoorWInv
import Derived.Test.YtnlkeeaoknbmbaaDoorWInvWords
import Derived.Test.YtnlkeeaoknbmbaaDoorWGuard
import Derived.Test.YtnlkeeaoknbmbaaDoorWNEv
import Derived.Test.YtnlkeeaoknbmbaaDoorWMore
namespace Go.Proofs.YtnlkeeaoknbmbaaDoor.QParamsOfs
open Go.RowKit Go.Proofs.YtnlkeeaoknbmbaaDoor.Er Go.Proofs.YtnlkeeaoknbmbaaDoor.As Go.Proofs.YtnlkeeaoknbmbaaDoor.Tells Go.Proofs.YtnlkeeaoknbmbaaDoorW.PrintWords Go.Proofs.YtnlkeeaoknbmbaaDoorW.PrintLast Go.Proofs.YtnlkeeaoknbmbaaDoorW.PrintMore
attribute [local go_sem] max2_int min2_int max_two min_two max_three min_three max_four min_four   -- for this text's walks alone
set_option linter.unusedVariables false
set_option linter.unusedSimpArgs false




-- the values' own types

end Go.Proofs.YtnlkeeaoknbmbaaDoor.QParamsOfs
