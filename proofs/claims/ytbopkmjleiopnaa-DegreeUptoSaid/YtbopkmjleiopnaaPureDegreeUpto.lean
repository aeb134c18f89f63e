/- DegreeUpto (P7.3): just the numbers below Upto have at most that degree. Conditions: none. -/
import Derived.Test.YtbopkmjleiopnaaDegDegreeUpto
namespace Go.Proofs.Ytbopkmjleiopnaa.Pure
open Go.RowKit Go.Proofs.Ytbopkmjleiopnaa.QDegreeUpto Go.Proofs.YtbopkmjleiopnaaW.PrintWords Go.Proofs.YtbopkmjleiopnaaW.PrintLast Go.Proofs.YtbopkmjleiopnaaW.PrintMore Go.Proofs.Ytbopkmjleiopnaa.Kit Go.Proofs.Ytbopkmjleiopnaa.Er Go.Proofs.Ytbopkmjleiopnaa.DegDegreeUpto

theorem DegreeUpto : geyserlaw07_DegreeUpto.Pure := by
  intro v d _ _
  unfold geyserlaw07_DegreeUpto.f
  by_cases h : v < 0 ∨ v ≥ 1048576
  · refine bindE (of_bad h) ((if_neg (by decide)).trans ((if_pos rfl).trans (bindE awake_ok rfl)))
  · refine bindE (of_ok (by omega) (by omega)) ((if_pos rfl).trans (bindE (upto_ok d) ((if_pos ?_).trans (bindE awake_ok rfl))))
    rw [beq_iff_eq]
    exact decide_eq_decide.2 (upto_iff v d (by omega) (by omega))
end Go.Proofs.Ytbopkmjleiopnaa.Pure
