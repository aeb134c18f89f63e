-- Written by a program of this session out of the translation. Lean checks it.
import Derived.Test.YtdiimfldkbpagaaQCheckAddsx0
import Derived.Test.YtdiimfldkbpagaaQCheckAddsx1
import Derived.Test.YtdiimfldkbpagaaQCheckAddsx2
import Derived.Test.YtdiimfldkbpagaaQCheckAddsx3
namespace Go.Proofs.Ytdiimfldkbpagaa.QCheckAdds
open Go.RowKit Go.Proofs.Ytdiimfldkbpagaa.Er Go.Proofs.Ytdiimfldkbpagaa.Lit Go.Proofs.YtdiimfldkbpagaaW.PrintWords Go.Proofs.YtdiimfldkbpagaaW.PrintLast Go.Proofs.YtdiimfldkbpagaaW.PrintMore
attribute [local go_sem] max2_int min2_int max_two min_two max_three min_three max_four min_four   -- for this text's walks alone
set_option linter.unusedVariables false
set_option linter.unusedSimpArgs false

end Go.Proofs.Ytdiimfldkbpagaa.QCheckAdds
