-- Written by a program of this session out of the translation. Lean checks it.
import Derived.Test.YtakhbcmhfgjocaaProg
import Derived.Below
import Derived.Deep.Draws
import Derived.Deep.AppendLies
import Derived.Maps.AppendAt
import Derived.OwnWalk
import Derived.Laws.BytesArg
import Derived.Laws.MakeOwn
import Derived.Laws.OwnMore
import Derived.Deep.OwnRows
import Derived.Tactics
import Derived.Lib.ConvBytes
import Derived.Laws.Slices
import Derived.WalkKit
import Derived.KernelRfl
import Derived.RowKit3
import Derived.Deep.LoopGhost
import Derived.Deep.QuietTactic
import Derived.BigQuiet
import Derived.WideLaws
import Derived.Deep.DeepCutAuto
import Derived.Deep.CutBlock
import Derived.Deep.RegionHeld3
import Derived.Laws.Rows
import Derived.Lib.AppendStr
import Derived.ArgAppend
import Derived.Laws.IdiomCopy
import Derived.OrdersHeld
import Derived.Laws.BitsLemmas
import Derived.RowKit
import Derived.Test.YtakhbcmhfgjocaaWWords
import Derived.Test.YtakhbcmhfgjocaaWLast
import Derived.Test.YtakhbcmhfgjocaaWTab
import Derived.Test.YtakhbcmhfgjocaaWFour
import Derived.Test.YtakhbcmhfgjocaaWQPut
import Derived.Test.YtakhbcmhfgjocaaWApart
import Derived.Test.YtakhbcmhfgjocaaWArr
import Derived.Test.YtakhbcmhfgjocaaWZeros
import Derived.Test.YtakhbcmhfgjocaaWFoot
import Derived.Test.YtakhbcmhfgjocaaWKept
import Derived.Test.YtakhbcmhfgjocaaWShare
import Derived.Test.YtakhbcmhfgjocaaWN
import Derived.Test.YtakhbcmhfgjocaaWFootNe
import Derived.Test.YtakhbcmhfgjocaaWAt
import Derived.Test.YtakhbcmhfgjocaaWEqStruct
import Derived.Test.YtakhbcmhfgjocaaWRepsOne
import Derived.Test.YtakhbcmhfgjocaaWInv
import Derived.Test.YtakhbcmhfgjocaaWInvWords
import Derived.Test.YtakhbcmhfgjocaaWGuard
import Derived.Test.YtakhbcmhfgjocaaWNEv
import Derived.Test.YtakhbcmhfgjocaaWMore
namespace Go.Proofs.Ytakhbcmhfgjocaa.QMixOne
open Go.RowKit Go.Proofs.YtakhbcmhfgjocaaW.PrintWords Go.Proofs.YtakhbcmhfgjocaaW.PrintLast Go.Proofs.YtakhbcmhfgjocaaW.PrintMore
attribute [local go_sem] max2_int min2_int max_two min_two max_three min_three max_four min_four   -- for this text's walks alone




-- the values' own types

end Go.Proofs.Ytakhbcmhfgjocaa.QMixOne
