-- Written by a program of this session out of the translation. Lean checks it.
import Derived.Test.YtbopkmjleiopnaaProg
import Derived.Below
import Derived.Deep.Draws
import Derived.Deep.AppendLies
import Derived.Maps.AppendAt
import Derived.OwnWalk
import Derived.Laws.BytesArg
import Derived.Laws.MakeOwn
import Derived.Laws.OwnMore
import Derived.Deep.OwnRows
import Derived.Tactics
import Derived.Lib.ConvBytes
import Derived.Laws.Slices
import Derived.WalkKit
import Derived.KernelRfl
import Derived.RowKit3
import Derived.Deep.LoopGhost
import Derived.Deep.QuietTactic
import Derived.BigQuiet
import Derived.WideLaws
import Derived.Deep.DeepCutAuto
import Derived.Deep.CutBlock
import Derived.Deep.RegionHeld3
import Derived.Laws.Rows
import Derived.Lib.AppendStr
import Derived.ArgAppend
import Derived.Laws.IdiomCopy
import Derived.OrdersHeld
import Derived.Laws.BitsLemmas
import Derived.RowKit
import Derived.Test.YtbopkmjleiopnaaEr
import Derived.Test.YtbopkmjleiopnaaAll
import Derived.Test.YtbopkmjleiopnaaWWords
import Derived.Test.YtbopkmjleiopnaaWLast
import Derived.Test.YtbopkmjleiopnaaWTab
import Derived.Test.YtbopkmjleiopnaaWFour
import Derived.Test.YtbopkmjleiopnaaWQPut
import Derived.Test.YtbopkmjleiopnaaWApart
import Derived.Test.YtbopkmjleiopnaaWArr
import Derived.Test.YtbopkmjleiopnaaWZeros
import Derived.Test.YtbopkmjleiopnaaWFoot
import Derived.Test.YtbopkmjleiopnaaWKept
import Derived.Test.YtbopkmjleiopnaaWShare
import Derived.Test.YtbopkmjleiopnaaWN
import Derived.Test.YtbopkmjleiopnaaWFootNe
import Derived.Test.YtbopkmjleiopnaaWAt
import Derived.Test.YtbopkmjleiopnaaWEqStruct
import Derived.Test.YtbopkmjleiopnaaWRepsOne
import Derived.Test.YtbopkmjleiopnaaWInv
import Derived.Test.YtbopkmjleiopnaaWInvWords
import Derived.Test.YtbopkmjleiopnaaWGuard
import Derived.Test.YtbopkmjleiopnaaWNEv
import Derived.Test.YtbopkmjleiopnaaWMore
namespace Go.Proofs.Ytbopkmjleiopnaa.QDegreeAll
open Go.RowKit Go.Proofs.Ytbopkmjleiopnaa.Er Go.Proofs.YtbopkmjleiopnaaW.PrintWords Go.Proofs.YtbopkmjleiopnaaW.PrintLast Go.Proofs.YtbopkmjleiopnaaW.PrintMore
attribute [local go_sem] max2_int min2_int max_two min_two max_three min_three max_four min_four   -- for this text's walks alone
set_option linter.unusedVariables false
set_option linter.unusedSimpArgs false




theorem info3 : (Try.prog.info? 3).map (fun i => (i.zero, i.size, i.bytes)) = some (some (.int .i64 0), 1, 8) := by kernel_rfl
-- the values' own types

end Go.Proofs.Ytbopkmjleiopnaa.QDegreeAll
