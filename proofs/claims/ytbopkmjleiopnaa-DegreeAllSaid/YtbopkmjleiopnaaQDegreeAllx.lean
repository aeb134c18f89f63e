-- Written by a program of this session out of the translation. Lean checks it.
import Derived.Test.YtbopkmjleiopnaaQDegreeAllx0
import Derived.Test.YtbopkmjleiopnaaQDegreeAllx1
namespace Go.Proofs.Ytbopkmjleiopnaa.QDegreeAll
open Go.RowKit Go.Proofs.Ytbopkmjleiopnaa.Er Go.Proofs.YtbopkmjleiopnaaW.PrintWords Go.Proofs.YtbopkmjleiopnaaW.PrintLast Go.Proofs.YtbopkmjleiopnaaW.PrintMore
attribute [local go_sem] max2_int min2_int max_two min_two max_three min_three max_four min_four   -- for this text's walks alone
set_option linter.unusedVariables false
set_option linter.unusedSimpArgs false

end Go.Proofs.Ytbopkmjleiopnaa.QDegreeAll
