-- Written by a program of this session out of the translation. Lean checks it.
import Derived.Test.YtgbghjbihddpjaaDoorProg
import Derived.Below
import Derived.Deep.Draws
import Derived.Deep.AppendLies
import Derived.Maps.AppendAt
import Derived.OwnWalk
import Derived.Laws.BytesArg
import Derived.Laws.MakeOwn
import Derived.Laws.OwnMore
import Derived.Deep.OwnRows
import Derived.Tactics
import Derived.Lib.ConvBytes
import Derived.Laws.Slices
import Derived.WalkKit
import Derived.KernelRfl
import Derived.RowKit3
import Derived.Deep.LoopGhost
import Derived.Deep.QuietTactic
import Derived.BigQuiet
import Derived.WideLaws
import Derived.Deep.DeepCutAuto
import Derived.Deep.CutBlock
import Derived.Deep.RegionHeld3
import Derived.Laws.Rows
import Derived.Lib.AppendStr
import Derived.ArgAppend
import Derived.Laws.IdiomCopy
import Derived.OrdersHeld
import Derived.Laws.BitsLemmas
import Derived.RowKit
import Derived.Test.YtgbghjbihddpjaaDoorTells21
import Derived.Test.YtgbghjbihddpjaaDoorSt
import Derived.Test.YtgbghjbihddpjaaDoorFor
import Derived.Test.YtgbghjbihddpjaaDoorWWords
import Derived.Test.YtgbghjbihddpjaaDoorWLast
import Derived.Test.YtgbghjbihddpjaaDoorWTab
import Derived.Test.YtgbghjbihddpjaaDoorWFour
import Derived.Test.YtgbghjbihddpjaaDoorWQPut
import Derived.Test.YtgbghjbihddpjaaDoorWApart
import Derived.Test.YtgbghjbihddpjaaDoorWArr
import Derived.Test.YtgbghjbihddpjaaDoorWZeros
import Derived.Test.YtgbghjbihddpjaaDoorWFoot
import Derived.Test.YtgbghjbihddpjaaDoorWKept
import Derived.Test.YtgbghjbihddpjaaDoorWShare
import Derived.Test.YtgbghjbihddpjaaDoorWN
import Derived.Test.YtgbghjbihddpjaaDoorWFootNe
import Derived.Test.YtgbghjbihddpjaaDoorWAt
import Derived.Test.YtgbghjbihddpjaaDoorWEqStruct
import Derived.Test.YtgbghjbihddpjaaDoorWRepsOne
import Derived.Test.YtgbghjbihddpjaaDoorWInv
import Derived.Test.YtgbghjbihddpjaaDoorWInvWords
import Derived.Test.YtgbghjbihddpjaaDoorWGuard
import Derived.Test.YtgbghjbihddpjaaDoorWNEv
import Derived.Test.YtgbghjbihddpjaaDoorWMore
namespace Go.Proofs.YtgbghjbihddpjaaDoor.QControlNil
open Go.RowKit Go.Proofs.YtgbghjbihddpjaaDoor.Er Go.Proofs.YtgbghjbihddpjaaDoor.As Go.Proofs.YtgbghjbihddpjaaDoor.Tells Go.Proofs.YtgbghjbihddpjaaDoor.St Go.Proofs.YtgbghjbihddpjaaDoorW.PrintWords Go.Proofs.YtgbghjbihddpjaaDoorW.PrintLast Go.Proofs.YtgbghjbihddpjaaDoorW.PrintMore
attribute [local go_sem] max2_int min2_int max_two min_two max_three min_three max_four min_four   -- for this text's walks alone
set_option linter.unusedVariables false
set_option linter.unusedSimpArgs false




-- the values' own types

end Go.Proofs.YtgbghjbihddpjaaDoor.QControlNil
