-- Written by a program of this session out of the translation. Lean checks it.
import Derived.Test.YtbopkmjleiopnaaDoorProg
import Derived.Below
import Derived.Deep.Draws
import Derived.Deep.AppendLies
import Derived.Maps.AppendAt
import Derived.OwnWalk
import Derived.Laws.BytesArg
import Derived.Laws.MakeOwn
import Derived.Laws.OwnMore
import Derived.Deep.OwnRows
import Derived.Tactics
import Derived.Lib.ConvBytes
import Derived.Laws.Slices
import Derived.WalkKit
import Derived.KernelRfl
import Derived.RowKit3
import Derived.Deep.LoopGhost
import Derived.Deep.QuietTactic
import Derived.BigQuiet
import Derived.WideLaws
import Derived.Deep.DeepCutAuto
import Derived.Deep.CutBlock
import Derived.Deep.RegionHeld3
import Derived.Laws.Rows
import Derived.Lib.AppendStr
import Derived.ArgAppend
import Derived.Laws.IdiomCopy
import Derived.OrdersHeld
import Derived.Laws.BitsLemmas
import Derived.RowKit
import Derived.Test.YtbopkmjleiopnaaDoorTells07
import Derived.Test.YtbopkmjleiopnaaDoorFor
import Derived.Test.YtbopkmjleiopnaaDoorWWords
import Derived.Test.YtbopkmjleiopnaaDoorWLast
import Derived.Test.YtbopkmjleiopnaaDoorWTab
import Derived.Test.YtbopkmjleiopnaaDoorWFour
import Derived.Test.YtbopkmjleiopnaaDoorWQPut
import Derived.Test.YtbopkmjleiopnaaDoorWApart
import Derived.Test.YtbopkmjleiopnaaDoorWArr
import Derived.Test.YtbopkmjleiopnaaDoorWZeros
import Derived.Test.YtbopkmjleiopnaaDoorWFoot
import Derived.Test.YtbopkmjleiopnaaDoorWKept
import Derived.Test.YtbopkmjleiopnaaDoorWShare
import Derived.Test.YtbopkmjleiopnaaDoorWN
import Derived.Test.YtbopkmjleiopnaaDoorWFootNe
import Derived.Test.YtbopkmjleiopnaaDoorWAt
import Derived.Test.YtbopkmjleiopnaaDoorWEqStruct
import Derived.Test.YtbopkmjleiopnaaDoorWRepsOne
import Derived.Test.YtbopkmjleiopnaaDoorWInv
import Derived.Test.YtbopkmjleiopnaaDoorWInvWords
import Derived.Test.YtbopkmjleiopnaaDoorWGuard
import Derived.Test.YtbopkmjleiopnaaDoorWNEv
import Derived.Test.YtbopkmjleiopnaaDoorWMore
namespace Go.Proofs.YtbopkmjleiopnaaDoor.QDegreeShares
open Go.RowKit Go.Proofs.YtbopkmjleiopnaaDoor.Er Go.Proofs.YtbopkmjleiopnaaDoor.As Go.Proofs.YtbopkmjleiopnaaDoor.Tells Go.Proofs.YtbopkmjleiopnaaDoorW.PrintWords Go.Proofs.YtbopkmjleiopnaaDoorW.PrintLast Go.Proofs.YtbopkmjleiopnaaDoorW.PrintMore
attribute [local go_sem] max2_int min2_int max_two min_two max_three min_three max_four min_four   -- for this text's walks alone
set_option linter.unusedVariables false
set_option linter.unusedSimpArgs false




-- the values' own types

end Go.Proofs.YtbopkmjleiopnaaDoor.QDegreeShares
