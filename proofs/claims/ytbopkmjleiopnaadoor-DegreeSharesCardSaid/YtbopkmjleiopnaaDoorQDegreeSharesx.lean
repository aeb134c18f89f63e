-- Written by a program of this session out of the translation. Lean checks it.
import Derived.Test.YtbopkmjleiopnaaDoorQDegreeSharesx0
import Derived.Test.YtbopkmjleiopnaaDoorQDegreeSharesx1
namespace Go.Proofs.YtbopkmjleiopnaaDoor.QDegreeShares
open Go.RowKit Go.Proofs.YtbopkmjleiopnaaDoor.Er Go.Proofs.YtbopkmjleiopnaaDoor.As Go.Proofs.YtbopkmjleiopnaaDoor.Tells Go.Proofs.YtbopkmjleiopnaaDoorW.PrintWords Go.Proofs.YtbopkmjleiopnaaDoorW.PrintLast Go.Proofs.YtbopkmjleiopnaaDoorW.PrintMore
attribute [local go_sem] max2_int min2_int max_two min_two max_three min_three max_four min_four   -- for this text's walks alone
set_option linter.unusedVariables false
set_option linter.unusedSimpArgs false

end Go.Proofs.YtbopkmjleiopnaaDoor.QDegreeShares
