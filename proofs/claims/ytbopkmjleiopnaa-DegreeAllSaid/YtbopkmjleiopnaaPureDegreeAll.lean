/- DegreeAll (P7.1, P7.2): the degrees of the table, in new memory, whatever is written over them; their shares together are all numbers. Conditions: none. -/
import Derived.Test.YtbopkmjleiopnaaQDegreeAllx
import Derived.Test.YtbopkmjleiopnaaKit
import Derived.KernelRfl
namespace Go.Proofs.Ytbopkmjleiopnaa.Pure
open Go.RowKit Go.Proofs.Ytbopkmjleiopnaa.QDegreeAll Go.Proofs.YtbopkmjleiopnaaW.PrintWords Go.Proofs.YtbopkmjleiopnaaW.PrintLast Go.Proofs.YtbopkmjleiopnaaW.PrintMore Go.Proofs.Ytbopkmjleiopnaa.Kit Go.Proofs.Ytbopkmjleiopnaa.Er

theorem at_20 (a : Int) : geyserlaw07_DegreeAll.f 20 a = some true := by kernel_rfl
theorem DegreeAll : geyserlaw07_DegreeAll.Pure := fun a _ => ⟨20, at_20 a⟩
end Go.Proofs.Ytbopkmjleiopnaa.Pure
