-- Written by a program of this session out of the translation. Lean checks it.
import Derived.Test.YtgbghjbihddpjaaQControlComesx0
import Derived.Test.YtgbghjbihddpjaaQControlComesx1
import Derived.Test.YtgbghjbihddpjaaQControlComesx2
import Derived.Test.YtgbghjbihddpjaaQControlComesx3
import Derived.Test.YtgbghjbihddpjaaQControlComesx4
namespace Go.Proofs.Ytgbghjbihddpjaa.QControlComes
open Go.RowKit Go.Proofs.Ytgbghjbihddpjaa.Er Go.Proofs.Ytgbghjbihddpjaa.St Go.Proofs.YtgbghjbihddpjaaW.PrintWords Go.Proofs.YtgbghjbihddpjaaW.PrintLast Go.Proofs.YtgbghjbihddpjaaW.PrintMore
attribute [local go_sem] max2_int min2_int max_two min_two max_three min_three max_four min_four   -- for this text's walks alone
set_option linter.unusedVariables false
set_option linter.unusedSimpArgs false

end Go.Proofs.Ytgbghjbihddpjaa.QControlComes
