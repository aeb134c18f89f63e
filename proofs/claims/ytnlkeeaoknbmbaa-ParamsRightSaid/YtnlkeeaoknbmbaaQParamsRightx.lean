-- Written by a program of this session out of the translation. Lean checks it.
import Derived.Test.YtnlkeeaoknbmbaaQParamsRightx0
import Derived.Test.YtnlkeeaoknbmbaaQParamsRightx1
import Derived.Test.YtnlkeeaoknbmbaaQParamsRightx2
import Derived.Test.YtnlkeeaoknbmbaaQParamsRightx3
namespace Go.Proofs.Ytnlkeeaoknbmbaa.QParamsRight
open Go.RowKit Go.Proofs.Ytnlkeeaoknbmbaa.Er Go.Proofs.YtnlkeeaoknbmbaaW.PrintWords Go.Proofs.YtnlkeeaoknbmbaaW.PrintLast Go.Proofs.YtnlkeeaoknbmbaaW.PrintMore
attribute [local go_sem] max2_int min2_int max_two min_two max_three min_three max_four min_four   -- for this text's walks alone
set_option linter.unusedVariables false
set_option linter.unusedSimpArgs false

end Go.Proofs.Ytnlkeeaoknbmbaa.QParamsRight
