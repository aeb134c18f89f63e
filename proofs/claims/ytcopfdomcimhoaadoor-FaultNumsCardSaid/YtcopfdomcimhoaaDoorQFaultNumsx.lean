-- Written by a program of this session out of the translation. Lean checks it.
import Derived.Test.YtcopfdomcimhoaaDoorQFaultNumsx0
import Derived.Test.YtcopfdomcimhoaaDoorQFaultNumsx1
namespace Go.Proofs.YtcopfdomcimhoaaDoor.QFaultNums
open Go.RowKit Go.Proofs.YtcopfdomcimhoaaDoor.ErP Go.Proofs.YtcopfdomcimhoaaDoor.As Go.Proofs.YtcopfdomcimhoaaDoorW.PrintWords Go.Proofs.YtcopfdomcimhoaaDoorW.PrintLast Go.Proofs.YtcopfdomcimhoaaDoorW.PrintMore
attribute [local go_sem] max2_int min2_int max_two min_two max_three min_three max_four min_four   -- for this text's walks alone
set_option linter.unusedVariables false
set_option linter.unusedSimpArgs false

end Go.Proofs.YtcopfdomcimhoaaDoor.QFaultNums
