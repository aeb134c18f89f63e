-- Written by a program of this session out of the translation. Lean checks it.
import Derived.Test.YtnlkeeaoknbmbaaDoorQParamsOfsx0
import Derived.Test.YtnlkeeaoknbmbaaDoorQParamsOfsx1
import Derived.Test.YtnlkeeaoknbmbaaDoorQParamsOfsx2
import Derived.Test.YtnlkeeaoknbmbaaDoorQParamsOfsx3
import Derived.Test.YtnlkeeaoknbmbaaDoorQParamsOfsx4
namespace Go.Proofs.YtnlkeeaoknbmbaaDoor.QParamsOfs
open Go.RowKit Go.Proofs.YtnlkeeaoknbmbaaDoor.Er Go.Proofs.YtnlkeeaoknbmbaaDoor.As Go.Proofs.YtnlkeeaoknbmbaaDoor.Tells Go.Proofs.YtnlkeeaoknbmbaaDoorW.PrintWords Go.Proofs.YtnlkeeaoknbmbaaDoorW.PrintLast Go.Proofs.YtnlkeeaoknbmbaaDoorW.PrintMore
attribute [local go_sem] max2_int min2_int max_two min_two max_three min_three max_four min_four   -- for this text's walks alone
set_option linter.unusedVariables false
set_option linter.unusedSimpArgs false

end Go.Proofs.YtnlkeeaoknbmbaaDoor.QParamsOfs
