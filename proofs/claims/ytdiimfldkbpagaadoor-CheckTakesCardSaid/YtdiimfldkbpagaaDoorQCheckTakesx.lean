-- Written by a program of this session out of the translation. Lean checks it.
import Derived.Test.YtdiimfldkbpagaaDoorQCheckTakesx0
import Derived.Test.YtdiimfldkbpagaaDoorQCheckTakesx1
import Derived.Test.YtdiimfldkbpagaaDoorQCheckTakesx2
import Derived.Test.YtdiimfldkbpagaaDoorQCheckTakesx3
namespace Go.Proofs.YtdiimfldkbpagaaDoor.QCheckTakes
open Go.RowKit Go.Proofs.YtdiimfldkbpagaaDoor.Er Go.Proofs.YtdiimfldkbpagaaDoor.As Go.Proofs.YtdiimfldkbpagaaDoor.Tells Go.Proofs.YtdiimfldkbpagaaDoor.Lit Go.Proofs.YtdiimfldkbpagaaDoorW.PrintWords Go.Proofs.YtdiimfldkbpagaaDoorW.PrintLast Go.Proofs.YtdiimfldkbpagaaDoorW.PrintMore
attribute [local go_sem] max2_int min2_int max_two min_two max_three min_three max_four min_four   -- for this text's walks alone
set_option linter.unusedVariables false
set_option linter.unusedSimpArgs false

end Go.Proofs.YtdiimfldkbpagaaDoor.QCheckTakes
