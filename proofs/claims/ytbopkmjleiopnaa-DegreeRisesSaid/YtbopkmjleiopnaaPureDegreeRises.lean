/- DegreeRises (P7.2): of a greater number the degree is no smaller. Conditions: none. -/
import Derived.Test.YtbopkmjleiopnaaDegDegreeRises
namespace Go.Proofs.Ytbopkmjleiopnaa.Pure
open Go.RowKit Go.Proofs.Ytbopkmjleiopnaa.QDegreeRises Go.Proofs.YtbopkmjleiopnaaW.PrintWords Go.Proofs.YtbopkmjleiopnaaW.PrintLast Go.Proofs.YtbopkmjleiopnaaW.PrintMore Go.Proofs.Ytbopkmjleiopnaa.Kit Go.Proofs.Ytbopkmjleiopnaa.Er Go.Proofs.Ytbopkmjleiopnaa.DegDegreeRises

theorem j0_any (a b x y : Int) : Ev (fun k => geyserlaw07_DegreeRises.j0 k a b x y true) true :=
  Ev.step (fun k => geyserlaw07_DegreeRises.j0.eq_2 a b x y true k) (EvT rfl (EvC awake_ok (EvK rfl)))
theorem DegreeRises : geyserlaw07_DegreeRises.Pure := by
  intro a b _ _
  refine Ev.rounds ?_
  unfold geyserlaw07_DegreeRises.f
  by_cases ha : a < 0 ∨ a ≥ 1048576
  · by_cases hb : b < 0 ∨ b ≥ 1048576
    · exact EvC (of_bad ha) (EvC (of_bad hb) (EvF (by decide) (j0_any a b _ _)))
    · exact EvC (of_bad ha) (EvC (of_ok (by omega) (by omega)) (EvF (by decide) (j0_any a b _ _)))
  · by_cases hb : b < 0 ∨ b ≥ 1048576
    · exact EvC (of_ok (by omega) (by omega)) (EvC (of_bad hb) (EvT rfl (EvF (by decide) (j0_any a b _ _))))
    · refine EvC (of_ok (by omega) (by omega)) (EvC (of_ok (by omega) (by omega)) (EvT rfl (EvT rfl ?_)))
      refine Ev.step (fun k => geyserlaw07_DegreeRises.j0.eq_2 a b (dOf a) (dOf b) false k) (EvF (by decide) ?_)
      by_cases c1 : a > b
      · have := rises (show b ≤ a by omega)
        exact EvT c1 (EvF (by omega) (EvT this (EvC awake_ok (EvK rfl))))
      · have h1 := rises (show a ≤ b by omega)
        refine EvF c1 (EvT h1 ?_)
        by_cases c2 : a < b
        · exact EvT c2 (EvC awake_ok (EvK rfl))
        · have := rises (show b ≤ a by omega)
          exact EvF c2 (EvT this (EvC awake_ok (EvK rfl)))
end Go.Proofs.Ytbopkmjleiopnaa.Pure
