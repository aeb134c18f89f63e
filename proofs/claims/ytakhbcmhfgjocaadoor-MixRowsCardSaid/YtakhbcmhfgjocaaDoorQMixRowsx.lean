-- Written by a program of this session out of the translation. Lean checks it.
import Derived.Test.YtakhbcmhfgjocaaDoorQMixRowsx0
import Derived.Test.YtakhbcmhfgjocaaDoorQMixRowsx1
import Derived.Test.YtakhbcmhfgjocaaDoorQMixRowsx2
namespace Go.Proofs.YtakhbcmhfgjocaaDoor.QMixRows
open Go.RowKit Go.Proofs.YtakhbcmhfgjocaaDoor.Er Go.Proofs.YtakhbcmhfgjocaaDoor.As Go.Proofs.YtakhbcmhfgjocaaDoor.Tells Go.Proofs.YtakhbcmhfgjocaaDoorW.PrintWords Go.Proofs.YtakhbcmhfgjocaaDoorW.PrintLast Go.Proofs.YtakhbcmhfgjocaaDoorW.PrintMore
attribute [local go_sem] max2_int min2_int max_two min_two max_three min_three max_four min_four   -- for this text's walks alone
set_option linter.unusedVariables false
set_option linter.unusedSimpArgs false

end Go.Proofs.YtakhbcmhfgjocaaDoor.QMixRows
