-- Written by a program of this session out of the translation. Lean checks it.
import Derived.Test.YtnlkeeaoknbmbaaDoorQParamsChoosesx0
import Derived.Test.YtnlkeeaoknbmbaaDoorQParamsChoosesx1
import Derived.Test.YtnlkeeaoknbmbaaDoorQParamsChoosesx2
import Derived.Test.YtnlkeeaoknbmbaaDoorQParamsChoosesx3
namespace Go.Proofs.YtnlkeeaoknbmbaaDoor.QParamsChooses
open Go.RowKit Go.Proofs.YtnlkeeaoknbmbaaDoor.Er Go.Proofs.YtnlkeeaoknbmbaaDoor.As Go.Proofs.YtnlkeeaoknbmbaaDoor.Tells Go.Proofs.YtnlkeeaoknbmbaaDoorW.PrintWords Go.Proofs.YtnlkeeaoknbmbaaDoorW.PrintLast Go.Proofs.YtnlkeeaoknbmbaaDoorW.PrintMore
attribute [local go_sem] max2_int min2_int max_two min_two max_three min_three max_four min_four   -- for this text's walks alone
set_option linter.unusedVariables false
set_option linter.unusedSimpArgs false

end Go.Proofs.YtnlkeeaoknbmbaaDoor.QParamsChooses
