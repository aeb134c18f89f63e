-- Written by a program of this session out of the translation. Lean checks it.
import Derived.Test.YtgbghjbihddpjaaProg
import Derived.Below
import Derived.Deep.Draws
import Derived.Deep.AppendLies
import Derived.Maps.AppendAt
import Derived.OwnWalk
import Derived.Laws.BytesArg
import Derived.Laws.MakeOwn
import Derived.Laws.OwnMore
import Derived.Deep.OwnRows
import Derived.Tactics
import Derived.Lib.ConvBytes
import Derived.Laws.Slices
import Derived.WalkKit
import Derived.KernelRfl
import Derived.RowKit3
import Derived.Deep.LoopGhost
import Derived.Deep.QuietTactic
import Derived.BigQuiet
import Derived.WideLaws
import Derived.Deep.DeepCutAuto
import Derived.Deep.CutBlock
import Derived.Deep.RegionHeld3
import Derived.Laws.Rows
import Derived.Lib.AppendStr
import Derived.ArgAppend
import Derived.Laws.IdiomCopy
import Derived.OrdersHeld
import Derived.Laws.BitsLemmas
import Derived.RowKit
import Derived.Test.YtgbghjbihddpjaaEr
import Derived.Test.YtgbghjbihddpjaaSt
import Derived.Test.YtgbghjbihddpjaaFor
import Derived.Test.YtgbghjbihddpjaaWWords
import Derived.Test.YtgbghjbihddpjaaWLast
import Derived.Test.YtgbghjbihddpjaaWTab
import Derived.Test.YtgbghjbihddpjaaWFour
import Derived.Test.YtgbghjbihddpjaaWQPut
import Derived.Test.YtgbghjbihddpjaaWApart
import Derived.Test.YtgbghjbihddpjaaWArr
import Derived.Test.YtgbghjbihddpjaaWZeros
import Derived.Test.YtgbghjbihddpjaaWFoot
import Derived.Test.YtgbghjbihddpjaaWKept
import Derived.Test.YtgbghjbihddpjaaWShare
import Derived.Test.YtgbghjbihddpjaaWN
import Derived.Test.YtgbghjbihddpjaaWFootNe
import Derived.Test.YtgbghjbihddpjaaWAt
import Derived.Test.YtgbghjbihddpjaaWEqStruct
import Derived.Test.YtgbghjbihddpjaaWRepsOne
import Derived.Test.YtgbghjbihddpjaaWInv
import Derived.Test.YtgbghjbihddpjaaWInvWords
import Derived.Test.YtgbghjbihddpjaaWGuard
import Derived.Test.YtgbghjbihddpjaaWNEv
import Derived.Test.YtgbghjbihddpjaaWMore
namespace Go.Proofs.Ytgbghjbihddpjaa.QControlComes
open Go.RowKit Go.Proofs.Ytgbghjbihddpjaa.Er Go.Proofs.Ytgbghjbihddpjaa.St Go.Proofs.YtgbghjbihddpjaaW.PrintWords Go.Proofs.YtgbghjbihddpjaaW.PrintLast Go.Proofs.YtgbghjbihddpjaaW.PrintMore
attribute [local go_sem] max2_int min2_int max_two min_two max_three min_three max_four min_four   -- for this text's walks alone
set_option linter.unusedVariables false
set_option linter.unusedSimpArgs false




-- the values' own types

end Go.Proofs.Ytgbghjbihddpjaa.QControlComes
