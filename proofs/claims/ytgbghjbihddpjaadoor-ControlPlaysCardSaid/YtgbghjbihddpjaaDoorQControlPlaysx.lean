-- Written by a program of this session out of the translation. Lean checks it.
import Derived.Test.YtgbghjbihddpjaaDoorQControlPlaysx0
import Derived.Test.YtgbghjbihddpjaaDoorQControlPlaysx1
import Derived.Test.YtgbghjbihddpjaaDoorQControlPlaysx2
import Derived.Test.YtgbghjbihddpjaaDoorQControlPlaysx3
import Derived.Test.YtgbghjbihddpjaaDoorQControlPlaysx4
namespace Go.Proofs.YtgbghjbihddpjaaDoor.QControlPlays
open Go.RowKit Go.Proofs.YtgbghjbihddpjaaDoor.Er Go.Proofs.YtgbghjbihddpjaaDoor.As Go.Proofs.YtgbghjbihddpjaaDoor.Tells Go.Proofs.YtgbghjbihddpjaaDoor.St Go.Proofs.YtgbghjbihddpjaaDoorW.PrintWords Go.Proofs.YtgbghjbihddpjaaDoorW.PrintLast Go.Proofs.YtgbghjbihddpjaaDoorW.PrintMore
attribute [local go_sem] max2_int min2_int max_two min_two max_three min_three max_four min_four   -- for this text's walks alone
set_option linter.unusedVariables false
set_option linter.unusedSimpArgs false

end Go.Proofs.YtgbghjbihddpjaaDoor.QControlPlays
