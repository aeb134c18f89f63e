-- Written by a program of this session out of the translation. Lean checks it.
import Derived.Test.YtgbghjbihddpjaaQControlRisesx0
import Derived.Test.YtgbghjbihddpjaaQControlRisesx1
import Derived.Test.YtgbghjbihddpjaaQControlRisesx2
import Derived.Test.YtgbghjbihddpjaaQControlRisesx3
namespace Go.Proofs.Ytgbghjbihddpjaa.QControlRises
open Go.RowKit Go.Proofs.Ytgbghjbihddpjaa.Er Go.Proofs.Ytgbghjbihddpjaa.St Go.Proofs.YtgbghjbihddpjaaW.PrintWords Go.Proofs.YtgbghjbihddpjaaW.PrintLast Go.Proofs.YtgbghjbihddpjaaW.PrintMore
attribute [local go_sem] max2_int min2_int max_two min_two max_three min_three max_four min_four   -- for this text's walks alone
set_option linter.unusedVariables false
set_option linter.unusedSimpArgs false

end Go.Proofs.Ytgbghjbihddpjaa.QControlRises
